/-
  Plain laws.
-/
import Derived.Test.YtecjoofjiockkaaDoorEPure
import Derived.Test.YtecjoofjiockkaaDoorPp11
import Derived.Test.YtecjoofjiockkaaDoorPp3
import Derived.Test.YtecjoofjiockkaaDoorPp54
import Derived.Lib.IndexLaws
import Derived.Test.YtecjoofjiockkaaDoorPp12
import Derived.Test.YtecjoofjiockkaaDoorPp21
import Derived.Test.YtecjoofjiockkaaDoorPp13
import Derived.Test.YtecjoofjiockkaaDoorEPairs
import Derived.Test.YtecjoofjiockkaaDoorPp52
import Derived.Test.YtecjoofjiockkaaDoorPp4
import Derived.Test.YtecjoofjiockkaaDoorESides
import Derived.Test.YtecjoofjiockkaaDoorEKind
import Derived.Test.YtecjoofjiockkaaDoorPp7
import Derived.Test.YtecjoofjiockkaaDoorPp18
import Derived.Test.YtecjoofjiockkaaDoorPp14
import Derived.Test.YtecjoofjiockkaaDoorPp15
import Derived.Test.YtecjoofjiockkaaDoorPp26
import Derived.Test.YtecjoofjiockkaaDoorPp16
import Derived.Test.YtecjoofjiockkaaDoorPp8
import Derived.Test.YtecjoofjiockkaaDoorEScript
import Derived.Test.YtecjoofjiockkaaDoorEReverse
import Derived.Test.YtecjoofjiockkaaDoorPp53
import Derived.Test.YtecjoofjiockkaaDoorPp55
namespace Go.Proofs.YtecjoofjiockkaaDoor.Pure
open Go.RowKit Go.Proofs.YtecjoofjiockkaaDoor.Pp Go.Proofs.YtecjoofjiockkaaDoor.Ext Go.Proofs.YtecjoofjiockkaaDoorW.PrintWords Go.Proofs.YtecjoofjiockkaaDoorW.PrintLast Go.Proofs.YtecjoofjiockkaaDoorW.PrintMore
set_option linter.unusedVariables false
set_option linter.unusedSimpArgs false
theorem Ev.pure {α : Type} (v : α) : Ev (fun _ => some v) v := ⟨0, fun _ _ => rfl⟩
theorem Ev.same {α : Type} {F G : Nat → Option α} {v : α} (h : ∀ k, F k = G k) (hg : Ev G v) : Ev F v := Ev.congr h hg
theorem data_len (s : ByteArray) : s.data.toList.length = s.size := by rw [Array.length_toList]; rfl
theorem w_of (n : Nat) (m : Int) (h : m = (n : Int)) (hn : n ≤ 9223372036854775807) : wrap64 m = (n : Int) := by rw [h]; exact w64' (by omega) (by omega)
theorem bt_at (s : ByteArray) (j : Nat) (h : j < s.size) : (bt s (j : Int) = 10) ↔ s.data.toList[j]? = some 10 := by
  have hl : j < s.data.toList.length := by rw [data_len]; exact h
  rw [bt_list, List.getD_eq_getElem?_getD, List.getElem?_eq_getElem hl, Option.getD_some]
  constructor
  · intro e; congr 1; exact UInt8.toNat_inj.mp (by have : (10 : UInt8).toNat = 10 := rfl; omega)
  · intro e; injection e with e; rw [e]; rfl
theorem ix (s : ByteArray) : (Lib.indexByte s.data.toList 10 = -1 ∧ ∀ j : Nat, j < s.size → bt s (j : Int) ≠ 10) ∨
    (∃ o : Nat, o < s.size ∧ Lib.indexByte s.data.toList 10 = (o : Int) ∧ bt s (o : Int) = 10 ∧ ∀ j : Nat, j < o → bt s (j : Int) ≠ 10) := by
  have hge := Lib.indexByte_ge s.data.toList 10
  rcases (by omega : Lib.indexByte s.data.toList 10 = -1 ∨ 0 ≤ Lib.indexByte s.data.toList 10) with h | h
  · exact .inl ⟨h, fun j hj e => Lib.indexByte_none h j ((bt_at s j hj).mp e)⟩
  · obtain ⟨o, ho⟩ : ∃ o : Nat, Lib.indexByte s.data.toList 10 = o := ⟨_, (Int.toNat_of_nonneg h).symm⟩
    obtain ⟨h1, h2⟩ := Lib.indexByte_some ho
    have hlt : o < s.size := by
      rw [← data_len]
      exact (List.getElem?_eq_some_iff.mp h1).1
    exact .inr ⟨o, hlt, ho, (bt_at s o hlt).mpr h1, fun j hj e => h2 j hj ((bt_at s j (by omega)).mp e)⟩
theorem ixf (s : ByteArray) : strings_IndexByte.f s 10 = some (Lib.indexByte s.data.toList 10) := rfl
def whole (s : ByteArray) : Bool := decide (0 < s.size ∧ bt s ((s.size : Int) - 1) = 10)
def body (s : ByteArray) : Bool := decide (∀ j, j < s.size - 1 → bt s ((j : Nat) : Int) ≠ 10)
def line (s : ByteArray) : Bool := decide (0 < s.size) && body s
def validL : List ByteArray → Bool
  | [] => true
  | s :: t => line s && (t.isEmpty || whole s) && validL t
theorem nil_size (s : ByteArray) : s.toList = ([] : List UInt8) ↔ ¬ 0 < s.size := by rw [toList_nil]; omega
theorem drop_by {α : Type} (l : List α) (d : α) (i : Nat) (h : i < l.length) : l.drop i = l.getD i d :: l.drop (i + 1) := by
  rw [List.getD_eq_getElem?_getD, List.getElem?_eq_getElem h]
  exact List.drop_eq_getElem_cons h
theorem drop_empty {α : Type} (l : List α) (n : Nat) : (l.drop n).isEmpty = decide (l.length ≤ n) := by
  by_cases h : l.length ≤ n
  · rw [List.drop_of_length_le h, decide_eq_true h]; rfl
  · rw [decide_eq_false h]
    cases hd : l.drop n with
    | nil => have := congrArg List.length hd; rw [List.length_drop] at this; simp at this; omega
    | cons a b => rfl
theorem ask (s : ByteArray) (hs : s.size ≤ 4000000000) (more : Bool) (P : Prop) [Decidable P] (hP : P ↔ more = true) (F : Option Bool) (r : Bool) (hF : F = some r) :
    ((strings_IndexByte.f s 10).bind fun t111 => (if s.toList = ([] : List UInt8) then (some false) else (if t111 ≥ 0 then (if t111 < (wrap64 ((s.size : Int) - 1)) then (some false) else (if t111 < 0 then (if P then (some false) else F) else F)) else (if t111 < 0 then (if P then (some false) else F) else F)))) =
      some (line s && ((!more) || whole s) && r) := by
  rw [ixf, Option.bind_some]
  by_cases h0 : 0 < s.size
  · rw [if_neg (by rw [nil_size]; omega), w64' (by omega) (by omega)]
    have hl0 : decide (0 < s.size) = true := decide_eq_true h0
    rcases ix s with ⟨hx, hn⟩ | ⟨o, ho, hx, hb, hn⟩
    · rw [hx, if_neg (by omega), if_pos (by omega)]
      have hb : body s = true := decide_eq_true (fun j hj => hn j (by omega))
      have hw : whole s = false := decide_eq_false (fun hh => hn (s.size - 1) (by omega) (by rw [show ((s.size - 1 : Nat) : Int) = (s.size : Int) - 1 by omega]; exact hh.2))
      unfold line
      rw [hl0, hb, hw]
      cases more with
      | true => rw [if_pos (hP.mpr rfl)]; rfl
      | false => rw [if_neg (fun h => by have := hP.mp h; cases this), hF]; simp
    · rw [hx, if_pos (by omega)]
      by_cases hlt : (o : Int) < (s.size : Int) - 1
      · rw [if_pos hlt]
        have hb : body s = false := decide_eq_false (fun hh => hh o (by omega) hb)
        unfold line
        rw [hb]; simp
      · rw [if_neg hlt, if_neg (by omega), hF]
        have hb2 : body s = true := decide_eq_true (fun j hj => hn j (by omega))
        have hw : whole s = true := decide_eq_true ⟨h0, by rw [show (s.size : Int) - 1 = (o : Int) by omega]; exact hb⟩
        unfold line
        rw [hl0, hb2, hw]; simp
  · rw [if_pos (by rw [nil_size]; exact h0)]
    unfold line
    rw [decide_eq_false h0]; simp
theorem p_valid_at (l : List ByteArray) (hl : l.length ≤ 4000000000) (hs : ∀ s ∈ l, s.size ≤ 4000000000) (d : Nat) : ∀ i : Nat, i + d = l.length → Ev (fun k => lines_Valid.l0 k l l (l.length : Int) (i : Int)) (validL (l.drop i)) := by
  induction d with
  | zero =>
    intro i h
    rw [List.drop_of_length_le (by omega)]
    exact Ev.step (f := fun _ => some true) (fun k => by rw [lines_Valid.l0, if_neg (by omega)]) (Ev.pure _)
  | succ d ih =>
    intro i h
    have hi : i < l.length := by omega
    rw [drop_by l ByteArray.empty i hi]
    obtain ⟨s, hse⟩ : ∃ s, s = l.getD i ByteArray.empty := ⟨_, rfl⟩
    have hm : s ∈ l := by rw [hse, List.getD_eq_getElem?_getD, List.getElem?_eq_getElem hi]; exact List.getElem_mem hi
    obtain ⟨K, hK⟩ := ih (i + 1) (by omega)
    refine ⟨K + 1, fun k hk => ?_⟩
    obtain ⟨k, rfl⟩ : ∃ j, k = j + 1 := ⟨k - 1, by omega⟩
    show lines_Valid.l0 (k + 1) l l (l.length : Int) (i : Int) = some _
    rw [← hse, validL, lines_Valid.l0, if_pos (by omega), if_pos (by omega), if_pos (by omega), rd_nat, ← hse]
    rw [ask s (hs s hm) (!(l.drop (i + 1)).isEmpty) ((i : Int) < wrap64 ((l.length : Int) - 1)) ?_ _ (validL (l.drop (i + 1))) ?_, Bool.not_not]
    · rw [w64' (by omega) (by omega)]
      rw [drop_empty]
      simp only [Bool.not_eq_true', decide_eq_false_iff_not]
      omega
    · rw [w_of (i + 1) _ (by omega) (by omega)]
      exact hK k (by omega)
theorem p_valid (l : List ByteArray) (hl : l.length ≤ 4000000000) (hs : ∀ s ∈ l, s.size ≤ 4000000000) : Ev (fun k => lines_Valid.f k l) (validL l) := by
  have := p_valid_at l hl hs l.length 0 (by omega)
  rw [List.drop_zero] at this
  exact this
theorem r_body (l : List ByteArray) (i : Nat) (hi : i < l.length) (hl : l.length ≤ 4000000000) (s : ByteArray) (hse : s = l.getD i ByteArray.empty) (hs : s.size ≤ 4000000000) (r : Bool)
    (hr : Ev (fun k => selvageref01_Valid.l0 k l (wrap64 ((i : Int) + 1))) r) (d : Nat) : ∀ j : Nat, (j : Int) + d = max 0 ((s.size : Int) - 1) → (∀ x : Nat, x < j → bt s (x : Int) ≠ 10) →
    Ev (fun k => selvageref01_Valid.l1 k l (i : Int) (s.size : Int) (j : Int)) (line s && ((l.drop (i + 1)).isEmpty || whole s) && r) := by
  have he := drop_empty l (i + 1)
  induction d with
  | zero =>
    intro j hj hn
    have hb : body s = true := decide_eq_true (fun x hx => hn x (by omega))
    obtain ⟨K, hK⟩ := hr
    refine ⟨K + 1, fun k hk => ?_⟩
    obtain ⟨k, rfl⟩ : ∃ j, k = j + 1 := ⟨k - 1, by omega⟩
    have hKk : selvageref01_Valid.l0 k l (wrap64 ((i : Int) + 1)) = some r := hK k (by omega)
    show selvageref01_Valid.l1 (k + 1) l (i : Int) (s.size : Int) (j : Int) = some _
    rw [selvageref01_Valid.l1, w64' (i := (s.size : Int) - 1) (by omega) (by omega), w64' (i := (l.length : Int) - 1) (by omega) (by omega), if_neg (by omega), rd_nat, ← hse]
    unfold line
    rw [hb, he]
    by_cases h0 : 0 < s.size
    · rw [if_neg (by omega), decide_eq_true h0]
      by_cases hlast : l.length ≤ i + 1
      · rw [if_neg (by omega), hKk, decide_eq_true hlast]; simp
      · rw [if_pos (by omega), if_pos (by omega), if_pos (by omega), if_pos (by omega), if_pos (by omega), decide_eq_false hlast]
        by_cases hw : bt s ((s.size : Int) - 1) = 10
        · rw [if_pos hw, hKk, show whole s = true from decide_eq_true ⟨h0, hw⟩]; simp
        · rw [if_neg hw, show whole s = false from decide_eq_false (fun x => hw x.2)]; simp
    · rw [if_pos (by omega), decide_eq_false h0]; simp
  | succ d ih =>
    intro j hj hn
    by_cases hb : bt s (j : Int) = 10
    · refine Ev.step (f := fun _ => some (line s && ((l.drop (i + 1)).isEmpty || whole s) && r)) (fun k => ?_) (Ev.pure _)
      rw [selvageref01_Valid.l1, w64' (i := (s.size : Int) - 1) (by omega) (by omega), if_pos (by omega), if_pos (by omega), if_pos (by omega), if_pos (by omega), rd_nat, ← hse, if_pos (by omega), if_pos hb]
      have hb2 : body s = false := decide_eq_false (fun hh => hh j (by omega) hb)
      unfold line
      rw [hb2]; simp
    · refine Ev.step (fun k => ?_) (ih (j + 1) (by omega) (fun x hx => by rcases Nat.lt_or_ge x j with h' | h'; exact hn x h'; rw [show x = j by omega]; exact hb))
      rw [selvageref01_Valid.l1, w64' (i := (s.size : Int) - 1) (by omega) (by omega), if_pos (by omega), if_pos (by omega), if_pos (by omega), if_pos (by omega), rd_nat, ← hse, if_pos (by omega), if_neg hb, w_of (j + 1) _ (by omega) (by omega)]
theorem r_valid_at (l : List ByteArray) (hl : l.length ≤ 4000000000) (hs : ∀ s ∈ l, s.size ≤ 4000000000) (d : Nat) : ∀ i : Nat, i + d = l.length → Ev (fun k => selvageref01_Valid.l0 k l (i : Int)) (validL (l.drop i)) := by
  induction d with
  | zero =>
    intro i h
    rw [List.drop_of_length_le (by omega)]
    exact Ev.step (f := fun _ => some true) (fun k => by rw [selvageref01_Valid.l0, if_neg (by omega)]) (Ev.pure _)
  | succ d ih =>
    intro i h
    have hi : i < l.length := by omega
    rw [drop_by l ByteArray.empty i hi]
    obtain ⟨s, hse⟩ : ∃ s, s = l.getD i ByteArray.empty := ⟨_, rfl⟩
    have hm : s ∈ l := by rw [hse, List.getD_eq_getElem?_getD, List.getElem?_eq_getElem hi]; exact List.getElem_mem hi
    have h2 := r_body l i hi hl s hse (hs s hm) (validL (l.drop (i + 1))) (Ev.same (G := fun k => selvageref01_Valid.l0 k l ((i + 1 : Nat) : Int)) (fun k => by rw [w_of (i + 1) _ (by omega) (by omega)]) (ih (i + 1) (by omega))) (max 0 ((s.size : Int) - 1)).toNat 0 (by omega) (fun x hx => by omega)
    rw [← hse, validL]
    refine Ev.step (fun k => ?_) h2
    rw [selvageref01_Valid.l0, if_pos (by omega), if_pos (by omega), rd_nat, ← hse]
    rfl
theorem r_valid (l : List ByteArray) (hl : l.length ≤ 4000000000) (hs : ∀ s ∈ l, s.size ≤ 4000000000) : Ev (fun k => selvageref01_Valid.f k l) (validL l) := by
  have := r_valid_at l hl hs l.length 0 (by omega)
  rw [List.drop_zero] at this
  exact this
theorem last_byte (s : ByteArray) (n : Nat) (hn : s.size = n + 1) : ∃ b : UInt8, s.data.toList = s.data.toList.take n ++ [b] ∧ bt s (n : Int) = (b.toNat : Int) := by
  have hl : n < s.data.toList.length := by rw [data_len]; omega
  refine ⟨s.data.toList[n], ?_, ?_⟩
  · have h1 := List.take_append_drop n s.data.toList
    rw [List.drop_eq_getElem_cons hl, List.drop_of_length_le (by rw [data_len]; omega)] at h1
    exact h1.symm
  · rw [bt_list, List.getD_eq_getElem?_getD, List.getElem?_eq_getElem hl]; rfl
theorem suffix_at (s : ByteArray) (hs : s.size ≤ 4000000000) : stringslite_HasSuffix.f s (⟨#[10]⟩ : ByteArray) = some (whole s) := by
  unfold stringslite_HasSuffix.f
  have h1 : (⟨#[10]⟩ : ByteArray).size = 1 := rfl
  rw [h1]
  by_cases h : 0 < s.size
  · obtain ⟨n, hn⟩ : ∃ n, s.size = n + 1 := ⟨s.size - 1, by omega⟩
    have w : wrap64 ((s.size : Int) - ((1 : Nat) : Int)) = (n : Int) := by rw [w64' (by omega) (by omega)]; omega
    obtain ⟨b, hb, hv⟩ := last_byte s n hn
    have hsuf : (s.extract n s.size).toList = [b] := by
      rw [Lib.toList_data, Lib.extract_data, hb, List.drop_left' (by rw [List.length_take, data_len]; omega), hn, show n + 1 - n = 1 by omega]; rfl
    have h10 : (⟨#[10]⟩ : ByteArray).toList = ([10] : List UInt8) := by rw [Lib.toList_data]
    rw [if_pos (by omega), w, if_pos (by omega), if_pos (by omega), Int.toNat_natCast, hsuf, h10]
    unfold whole
    rw [show (s.size : Int) - 1 = (n : Int) by omega, hv]
    congr 1
    by_cases e : b = 10
    · rw [e, decide_eq_true ⟨h, by rfl⟩]; rfl
    · have hne : ¬ (b.toNat : Int) = 10 := fun x => e (UInt8.toNat_inj.mp (by have : (10 : UInt8).toNat = 10 := rfl; omega))
      rw [decide_eq_false (fun x => hne x.2)]
      simp [e]
  · rw [if_neg (by omega)]
    unfold whole
    rw [decide_eq_false (fun x => h x.1)]
theorem whole_at (s : ByteArray) (hs : s.size ≤ 4000000000) : lines_Whole.f s = some (whole s) := by
  unfold lines_Whole.f strings_HasSuffix.f
  rw [suffix_at s hs]; rfl
end Go.Proofs.YtecjoofjiockkaaDoor.Pure
namespace Go.Proofs.YtecjoofjiockkaaDoor.Pure
open Go.RowKit Go.Proofs.YtecjoofjiockkaaDoor.Pp Go.Proofs.YtecjoofjiockkaaDoor.Ext Go.Proofs.YtecjoofjiockkaaDoorW.PrintWords Go.Proofs.YtecjoofjiockkaaDoorW.PrintLast Go.Proofs.YtecjoofjiockkaaDoorW.PrintMore
set_option linter.unusedVariables false
set_option linter.unusedSimpArgs false
theorem drop53 (s : List S53) (i : Nat) (h : i < s.length) : s.drop i = rd_T53 s (i : Int) :: s.drop (i + 1) := by
  unfold rd_T53
  rw [Int.toNat_natCast, List.getD_eq_getElem?_getD, List.getElem?_eq_getElem h]
  exact List.drop_eq_getElem_cons h
def okC (n m a b : Int) (c : S53) : Prop :=
  0 ≤ c.f1 ∧ 0 ≤ c.f3 ∧ (c.f1 ≠ 0 ∨ c.f3 ≠ 0) ∧ a ≤ c.f0 ∧ c.f0 ≤ n ∧ b ≤ c.f2 ∧ c.f2 ≤ m ∧ c.f0 - a = c.f2 - b ∧ c.f1 ≤ n - c.f0 ∧ c.f3 ≤ m - c.f2
def validP (n m : Int) : List S53 → Int → Int → Prop
  | [], a, b => n - a = m - b
  | c :: t, a, b => okC n m a b c ∧ validP n m t (c.f0 + c.f1) (c.f2 + c.f3)
open Classical in
noncomputable def errP (p : Prop) : Option Int := if p then none else some 60
theorem errP_pos {p : Prop} (h : p) : errP p = none := by unfold errP; rw [if_pos h]
theorem errP_neg {p : Prop} (h : ¬ p) : errP p = some 60 := by unfold errP; rw [if_neg h]
set_option maxHeartbeats 1000000 in
theorem valid_step (n m a b : Int) (s : List S53) (i : Nat) (hi : i < s.length) (hs : s.length ≤ 4000000000) (hn : n ≤ 4194304) (hm : m ≤ 4194304) (ha : 0 ≤ a) (hb : 0 ≤ b) (k : Nat) :
    (okC n m a b (rd_T53 s (i : Int)) → edits_Valid.l0 (k + 1) n m a b s (s.length : Int) (i : Int) = edits_Valid.l0 k n m ((rd_T53 s (i : Int)).f0 + (rd_T53 s (i : Int)).f1) ((rd_T53 s (i : Int)).f2 + (rd_T53 s (i : Int)).f3) s (s.length : Int) ((i + 1 : Nat) : Int)) ∧
    (¬ okC n m a b (rd_T53 s (i : Int)) → edits_Valid.l0 (k + 1) n m a b s (s.length : Int) (i : Int) = some (some 60)) := by
  have w1 : wrap64 ((i : Int) + 1) = ((i + 1 : Nat) : Int) := w_add i 1 (by omega)
  generalize hc : rd_T53 s (i : Int) = c
  constructor
  · rintro ⟨h1, h2, h3, h4, h5, h6, h7, h8, h9, h10⟩
    have e1 : wrap64 (c.f0 - a) = c.f0 - a := w64' (by omega) (by omega)
    have e2 : wrap64 (c.f2 - b) = c.f2 - b := w64' (by omega) (by omega)
    have e3 : wrap64 (n - c.f0) = n - c.f0 := w64' (by omega) (by omega)
    have e4 : wrap64 (m - c.f2) = m - c.f2 := w64' (by omega) (by omega)
    have e5 : wrap64 (c.f0 + c.f1) = c.f0 + c.f1 := w64' (by omega) (by omega)
    have e6 : wrap64 (c.f2 + c.f3) = c.f2 + c.f3 := w64' (by omega) (by omega)
    simp only [edits_Valid.l0, hc, w1, e1, e2, e3, e4, e5, e6]
    rw [if_pos (by omega), if_pos (by omega), if_pos (by omega), if_neg (by omega), if_neg (by omega)]
    by_cases z : c.f1 = 0
    · rw [if_pos z, if_neg (by omega), if_neg (by omega), if_neg (by omega), if_neg (by omega), if_neg (by omega), if_pos h8, if_neg (by omega), if_neg (by omega)]
    · rw [if_neg z, if_neg (by omega), if_neg (by omega), if_neg (by omega), if_neg (by omega), if_pos h8, if_neg (by omega), if_neg (by omega)]
  · intro hno
    simp only [edits_Valid.l0, hc]
    rw [if_pos (by omega), if_pos (by omega), if_pos (by omega)]
    by_cases q1 : c.f1 < 0
    · rw [if_pos q1]
    rw [if_neg q1]
    by_cases q2 : c.f3 < 0
    · rw [if_pos q2]
    rw [if_neg q2]
    by_cases z : c.f1 = 0
    · rw [if_pos z]
      by_cases z3 : c.f3 = 0
      · rw [if_pos z3]
      rw [if_neg z3]
      by_cases q3 : c.f0 < a
      · rw [if_pos q3]
      rw [if_neg q3]
      by_cases q4 : c.f0 > n
      · rw [if_pos q4]
      rw [if_neg q4]
      by_cases q5 : c.f2 < b
      · rw [if_pos q5]
      rw [if_neg q5]
      by_cases q6 : c.f2 > m
      · rw [if_pos q6]
      rw [if_neg q6]
      have e1 : wrap64 (c.f0 - a) = c.f0 - a := w64' (by omega) (by omega)
      have e2 : wrap64 (c.f2 - b) = c.f2 - b := w64' (by omega) (by omega)
      have e3 : wrap64 (n - c.f0) = n - c.f0 := w64' (by omega) (by omega)
      have e4 : wrap64 (m - c.f2) = m - c.f2 := w64' (by omega) (by omega)
      rw [e1, e2]
      by_cases q7 : c.f0 - a = c.f2 - b
      case neg => rw [if_neg q7]
      rw [if_pos q7, e3]
      by_cases q8 : c.f1 > n - c.f0
      · rw [if_pos q8]
      rw [if_neg q8]
      rw [e4]
      by_cases q9 : c.f3 > m - c.f2
      · rw [if_pos q9]
      rw [if_neg q9]
      exact absurd ⟨by omega, by omega, by omega, by omega, by omega, by omega, by omega, q7, by omega, by omega⟩ hno
    · rw [if_neg z]
      by_cases q3 : c.f0 < a
      · rw [if_pos q3]
      rw [if_neg q3]
      by_cases q4 : c.f0 > n
      · rw [if_pos q4]
      rw [if_neg q4]
      by_cases q5 : c.f2 < b
      · rw [if_pos q5]
      rw [if_neg q5]
      by_cases q6 : c.f2 > m
      · rw [if_pos q6]
      rw [if_neg q6]
      have e1 : wrap64 (c.f0 - a) = c.f0 - a := w64' (by omega) (by omega)
      have e2 : wrap64 (c.f2 - b) = c.f2 - b := w64' (by omega) (by omega)
      have e3 : wrap64 (n - c.f0) = n - c.f0 := w64' (by omega) (by omega)
      have e4 : wrap64 (m - c.f2) = m - c.f2 := w64' (by omega) (by omega)
      rw [e1, e2]
      by_cases q7 : c.f0 - a = c.f2 - b
      case neg => rw [if_neg q7]
      rw [if_pos q7, e3]
      by_cases q8 : c.f1 > n - c.f0
      · rw [if_pos q8]
      rw [if_neg q8]
      rw [e4]
      by_cases q9 : c.f3 > m - c.f2
      · rw [if_pos q9]
      rw [if_neg q9]
      exact absurd ⟨by omega, by omega, by omega, by omega, by omega, by omega, by omega, q7, by omega, by omega⟩ hno
theorem valid_loop (n m : Int) (s : List S53) (hs : s.length ≤ 4000000000) (hn : n ≤ 4194304) (hm : m ≤ 4194304) (d : Nat) : ∀ (i : Nat) (a b : Int), i + d = s.length → 0 ≤ a → a ≤ n → 0 ≤ b → b ≤ m →
    Ev (fun k => edits_Valid.l0 k n m a b s (s.length : Int) (i : Int)) (errP (validP n m (s.drop i) a b)) := by
  induction d with
  | zero =>
    intro i a b hd ha han hb hbm
    rw [List.drop_of_length_le (by omega)]
    refine Ev.step (f := fun _ => some (errP (validP n m [] a b))) (fun k => ?_) (Ev.pure _)
    have e1 : wrap64 (n - a) = n - a := w64' (by omega) (by omega)
    have e2 : wrap64 (m - b) = m - b := w64' (by omega) (by omega)
    simp only [edits_Valid.l0, e1, e2]
    rw [if_neg (by omega)]
    by_cases h : n - a = m - b
    · rw [if_pos h, errP_pos (show validP n m [] a b from h)]
    · rw [if_neg h, errP_neg (show ¬ validP n m [] a b from h)]
  | succ d ih =>
    intro i a b hd ha han hb hbm
    have hst := fun k => valid_step n m a b s i (by omega) hs hn hm ha hb k
    rw [drop53 s i (by omega)]
    by_cases h : okC n m a b (rd_T53 s (i : Int))
    · refine Ev.step (fun k => (hst k).1 h) ?_
      have hk := h
      obtain ⟨h1, h2, h3, h4, h5, h6, h7, h8, h9, h10⟩ := hk
      have := ih (i + 1) ((rd_T53 s (i : Int)).f0 + (rd_T53 s (i : Int)).f1) ((rd_T53 s (i : Int)).f2 + (rd_T53 s (i : Int)).f3) (by omega) (by omega) (by omega) (by omega) (by omega)
      have e : validP n m (rd_T53 s (i : Int) :: s.drop (i + 1)) a b = validP n m (s.drop (i + 1)) ((rd_T53 s (i : Int)).f0 + (rd_T53 s (i : Int)).f1) ((rd_T53 s (i : Int)).f2 + (rd_T53 s (i : Int)).f3) := propext ⟨fun x => x.2, fun x => ⟨h, x⟩⟩
      rw [e]
      exact this
    · refine Ev.step (f := fun _ => some (some 60)) (fun k => (hst k).2 h) ?_
      rw [errP_neg (fun x => h x.1)]
      exact Ev.pure _
noncomputable def validS (s : List S53) (n m : Int) : Option Int := if n > 4194304 ∨ m > 4194304 then some 1 else errP (validP n m s 0 0)
theorem valid_at (s : List S53) (hs : s.length ≤ 4000000000) (n m : Int) (hn : 0 ≤ n) (hm : 0 ≤ m) : Ev (fun k => edits_Valid.f k s n m) (validS s n m) := by
  unfold validS
  have jt : Ev (fun k => edits_Valid.j0 k s n m true) (some 1) := Ev.step (f := fun _ => some (some 1)) (fun k => by simp [edits_Valid.j0]) (Ev.pure _)
  by_cases h1 : n > 4194304
  · rw [if_pos (Or.inl h1)]
    refine Ev.same (fun k => ?_) jt
    unfold edits_Valid.f
    rw [if_neg (by omega), if_pos h1]
  · by_cases h2 : m > 4194304
    · rw [if_pos (Or.inr h2)]
      refine Ev.same (fun k => ?_) jt
      unfold edits_Valid.f
      rw [if_neg (by omega), if_neg h1, if_neg (by omega), decide_eq_true h2]
    · rw [if_neg (by omega)]
      refine Ev.same (G := fun k => edits_Valid.j0 k s n m false) (fun k => ?_) ?_
      · unfold edits_Valid.f
        rw [if_neg (by omega), if_neg h1, if_neg (by omega), decide_eq_false h2]
      · refine Ev.step (f := fun k => edits_Valid.l0 k n m 0 0 s (s.length : Int) 0) (fun k => by simp [edits_Valid.j0]) ?_
        exact valid_loop n m s hs (by omega) (by omega) s.length 0 0 0 (by omega) (by omega) hn (by omega) hm
def num (o : Option Int) : Int := o.getD 0
set_option maxHeartbeats 1000000 in
theorem rvalid_step (n m a b : Int) (s : List S53) (i : Nat) (hi : i < s.length) (hs : s.length ≤ 4000000000) (hn : n ≤ 4194304) (hm : m ≤ 4194304) (ha : 0 ≤ a) (hb : 0 ≤ b) (k : Nat) :
    (okC n m a b (rd_T53 s (i : Int)) → selvageref06_Valid.l0 (k + 1) s n m a b (i : Int) = selvageref06_Valid.l0 k s n m ((rd_T53 s (i : Int)).f0 + (rd_T53 s (i : Int)).f1) ((rd_T53 s (i : Int)).f2 + (rd_T53 s (i : Int)).f3) ((i + 1 : Nat) : Int)) ∧
    (¬ okC n m a b (rd_T53 s (i : Int)) → selvageref06_Valid.l0 (k + 1) s n m a b (i : Int) = some 60) := by
  have w1 : wrap64 ((i : Int) + 1) = ((i + 1 : Nat) : Int) := w_add i 1 (by omega)
  generalize hc : rd_T53 s (i : Int) = c
  constructor
  · rintro ⟨h1, h2, h3, h4, h5, h6, h7, h8, h9, h10⟩
    have e1 : wrap64 (c.f0 - a) = c.f0 - a := w64' (by omega) (by omega)
    have e2 : wrap64 (c.f2 - b) = c.f2 - b := w64' (by omega) (by omega)
    have e3 : wrap64 (n - c.f0) = n - c.f0 := w64' (by omega) (by omega)
    have e4 : wrap64 (m - c.f2) = m - c.f2 := w64' (by omega) (by omega)
    have e5 : wrap64 (c.f0 + c.f1) = c.f0 + c.f1 := w64' (by omega) (by omega)
    have e6 : wrap64 (c.f2 + c.f3) = c.f2 + c.f3 := w64' (by omega) (by omega)
    simp only [selvageref06_Valid.l0, hc, w1, e1, e2, e3, e4, e5, e6]
    rw [if_pos (by omega), if_pos (by omega), if_neg (by omega), if_neg (by omega), if_neg (by omega), if_neg (by omega), if_pos h8, if_neg (by omega), if_neg (by omega), if_neg (by omega), if_neg (by omega)]
    by_cases z : c.f1 = 0
    · rw [if_pos z, if_neg (by omega)]
    · rw [if_neg z]
  · intro hno
    simp only [selvageref06_Valid.l0, hc]
    rw [if_pos (by omega), if_pos (by omega)]
    by_cases q3 : c.f0 < a
    · rw [if_pos q3]
    rw [if_neg q3]
    by_cases q5 : c.f2 < b
    · rw [if_pos q5]
    rw [if_neg q5]
    by_cases q4 : c.f0 > n
    · rw [if_pos q4]
    rw [if_neg q4]
    by_cases q6 : c.f2 > m
    · rw [if_pos q6]
    rw [if_neg q6]
    have e1 : wrap64 (c.f0 - a) = c.f0 - a := w64' (by omega) (by omega)
    have e2 : wrap64 (c.f2 - b) = c.f2 - b := w64' (by omega) (by omega)
    have e3 : wrap64 (n - c.f0) = n - c.f0 := w64' (by omega) (by omega)
    have e4 : wrap64 (m - c.f2) = m - c.f2 := w64' (by omega) (by omega)
    rw [e1, e2]
    by_cases q7 : c.f0 - a = c.f2 - b
    case neg => rw [if_neg q7]
    rw [if_pos q7]
    by_cases q1 : c.f1 < 0
    · rw [if_pos q1]
    rw [if_neg q1]
    by_cases q2 : c.f3 < 0
    · rw [if_pos q2]
    rw [if_neg q2]
    rw [e3]
    by_cases q8 : c.f1 > n - c.f0
    · rw [if_pos q8]
    rw [if_neg q8]
    rw [e4]
    by_cases q9 : c.f3 > m - c.f2
    · rw [if_pos q9]
    rw [if_neg q9]
    by_cases z : c.f1 = 0
    · rw [if_pos z]
      by_cases z3 : c.f3 = 0
      · rw [if_pos z3]
      rw [if_neg z3]
      exact absurd ⟨by omega, by omega, by omega, by omega, by omega, by omega, by omega, q7, by omega, by omega⟩ hno
    · exact absurd ⟨by omega, by omega, by omega, by omega, by omega, by omega, by omega, q7, by omega, by omega⟩ hno
theorem rvalid_loop (n m : Int) (s : List S53) (hs : s.length ≤ 4000000000) (hn : n ≤ 4194304) (hm : m ≤ 4194304) (d : Nat) : ∀ (i : Nat) (a b : Int), i + d = s.length → 0 ≤ a → a ≤ n → 0 ≤ b → b ≤ m →
    Ev (fun k => selvageref06_Valid.l0 k s n m a b (i : Int)) (num (errP (validP n m (s.drop i) a b))) := by
  induction d with
  | zero =>
    intro i a b hd ha han hb hbm
    rw [List.drop_of_length_le (by omega)]
    refine Ev.step (f := fun _ => some (num (errP (validP n m [] a b)))) (fun k => ?_) (Ev.pure _)
    have e1 : wrap64 (n - a) = n - a := w64' (by omega) (by omega)
    have e2 : wrap64 (m - b) = m - b := w64' (by omega) (by omega)
    simp only [selvageref06_Valid.l0, e1, e2]
    rw [if_neg (by omega)]
    by_cases h : n - a = m - b
    · rw [if_pos h, errP_pos (show validP n m [] a b from h)]; rfl
    · rw [if_neg h, errP_neg (show ¬ validP n m [] a b from h)]; rfl
  | succ d ih =>
    intro i a b hd ha han hb hbm
    have hst := fun k => rvalid_step n m a b s i (by omega) hs hn hm ha hb k
    rw [drop53 s i (by omega)]
    by_cases h : okC n m a b (rd_T53 s (i : Int))
    · refine Ev.step (fun k => (hst k).1 h) ?_
      have hk := h
      obtain ⟨h1, h2, h3, h4, h5, h6, h7, h8, h9, h10⟩ := hk
      have := ih (i + 1) ((rd_T53 s (i : Int)).f0 + (rd_T53 s (i : Int)).f1) ((rd_T53 s (i : Int)).f2 + (rd_T53 s (i : Int)).f3) (by omega) (by omega) (by omega) (by omega) (by omega)
      have e : validP n m (rd_T53 s (i : Int) :: s.drop (i + 1)) a b = validP n m (s.drop (i + 1)) ((rd_T53 s (i : Int)).f0 + (rd_T53 s (i : Int)).f1) ((rd_T53 s (i : Int)).f2 + (rd_T53 s (i : Int)).f3) := propext ⟨fun x => x.2, fun x => ⟨h, x⟩⟩
      rw [e]
      exact this
    · refine Ev.step (f := fun _ => some 60) (fun k => (hst k).2 h) ?_
      rw [errP_neg (fun x => h x.1)]
      exact Ev.pure _
theorem rvalid_at (s : List S53) (hs : s.length ≤ 4000000000) (n m : Int) (hn : 0 ≤ n) (hm : 0 ≤ m) : Ev (fun k => selvageref06_Valid.f k s n m) (num (validS s n m)) := by
  unfold validS
  have jt : Ev (fun k => selvageref06_Valid.j0 k s n m true) 1 := Ev.step (f := fun _ => some 1) (fun k => by simp [selvageref06_Valid.j0]) (Ev.pure _)
  by_cases h1 : n > 4194304
  · rw [if_pos (Or.inl h1)]
    refine Ev.same (fun k => ?_) jt
    unfold selvageref06_Valid.f
    rw [if_neg (by omega), if_pos h1]
  · by_cases h2 : m > 4194304
    · rw [if_pos (Or.inr h2)]
      refine Ev.same (fun k => ?_) jt
      unfold selvageref06_Valid.f
      rw [if_neg (by omega), if_neg h1, if_neg (by omega), decide_eq_true h2]
    · rw [if_neg (by omega)]
      refine Ev.same (G := fun k => selvageref06_Valid.j0 k s n m false) (fun k => ?_) ?_
      · unfold selvageref06_Valid.f
        rw [if_neg (by omega), if_neg h1, if_neg (by omega), decide_eq_false h2]
      · refine Ev.step (f := fun k => selvageref06_Valid.l0 k s n m 0 0 0) (fun k => by simp [selvageref06_Valid.j0]) ?_
        exact rvalid_loop n m s hs (by omega) (by omega) s.length 0 0 0 (by omega) (by omega) hn (by omega) hm
end Go.Proofs.YtecjoofjiockkaaDoor.Pure
namespace Go.Proofs.YtecjoofjiockkaaDoor.Pure
open Go.RowKit Go.Proofs.YtecjoofjiockkaaDoor.Pp Go.Proofs.YtecjoofjiockkaaDoor.Ext Go.Proofs.YtecjoofjiockkaaDoorW.PrintWords Go.Proofs.YtecjoofjiockkaaDoorW.PrintLast Go.Proofs.YtecjoofjiockkaaDoorW.PrintMore
set_option linter.unusedVariables false
set_option linter.unusedSimpArgs false
theorem drop37 (s : List S37) (i : Nat) (h : i < s.length) : s.drop i = rd_T37 s (i : Int) :: s.drop (i + 1) := by
  unfold rd_T37
  rw [Int.toNat_natCast, List.getD_eq_getElem?_getD, List.getElem?_eq_getElem h]
  exact List.drop_eq_getElem_cons h
def runP (a b : Int) : Nat → List S37
  | 0 => []
  | d + 1 => ⟨a, b⟩ :: runP (a + 1) (b + 1) d
theorem runP_length (d : Nat) : ∀ a b, (runP a b d).length = d := by
  induction d with
  | zero => intro a b; rfl
  | succ d ih => intro a b; simp only [runP, List.length_cons, ih]
def pairsL (n : Int) : List S53 → Int → Int → List S37
  | [], a, b => runP a b (n - a).toNat
  | c :: t, a, b => runP a b (c.f0 - a).toNat ++ pairsL n t (c.f0 + c.f1) (c.f2 + c.f3)
theorem pairsL_length (n m : Int) : ∀ (s : List S53) (a b : Int), validP n m s a b → a ≤ n → ((pairsL n s a b).length : Int) ≤ n - a
  | [], a, b, _, h => by
    simp only [pairsL, runP_length]; omega
  | c :: t, a, b, hv, h => by
    obtain ⟨⟨h1, h2, h3, h4, h5, h6, h7, h8, h9, h10⟩, hv2⟩ := hv
    have := pairsL_length n m t (c.f0 + c.f1) (c.f2 + c.f3) hv2 (by omega)
    simp only [pairsL, List.length_append, runP_length]
    omega
theorem pairs_inner (s : List S53) (n : Int) (i : Nat) (tt : Int) (htt : tt ≤ 4194304) {v : List S37} (d : Nat) : ∀ (out : List S37) (a b : Int), a + (d : Int) = tt → 0 ≤ a → 0 ≤ b → b + (d : Int) ≤ 4194304 → out.length + d ≤ 8000000 →
    Ev (fun k => if (i : Int) < (s.length : Int) then (if 0 ≤ (i : Int) then selvageref06_pairs.l0 k s n (out ++ runP a b d) (wrap64 ((rd_T53 s (i : Int)).f0 + (rd_T53 s (i : Int)).f1)) (wrap64 ((rd_T53 s (i : Int)).f2 + (rd_T53 s (i : Int)).f3)) (wrap64 ((i : Int) + 1)) else none)
      else selvageref06_pairs.l0 k s n (out ++ runP a b d) tt (b + (d : Int)) (wrap64 ((i : Int) + 1))) v →
    Ev (fun k => selvageref06_pairs.l1 k s n out a b (i : Int) tt) v := by
  induction d with
  | zero =>
    intro out a b h ha hb hb2 ho he
    refine Ev.step (fun k => ?_) he
    obtain rfl : a = tt := by omega
    simp only [selvageref06_pairs.l1, runP, List.append_nil]
    rw [if_neg (by omega), show b + ((0 : Nat) : Int) = b by omega]
  | succ d ih =>
    intro out a b h ha hb hb2 ho he
    have e1 : wrap64 (a + 1) = a + 1 := w64' (by omega) (by omega)
    have e2 : wrap64 (b + 1) = b + 1 := w64' (by omega) (by omega)
    refine Ev.step (f := fun k => selvageref06_pairs.l1 k s n (out ++ [⟨a, b⟩]) (a + 1) (b + 1) (i : Int) tt) (fun k => ?_) (ih (out ++ [⟨a, b⟩]) (a + 1) (b + 1) (by omega) (by omega) (by omega) (by omega) (by rw [List.length_append, List.length_singleton]; omega) ?_)
    · simp only [selvageref06_pairs.l1, e1, e2]
      rw [if_pos (by omega), if_pos (by omega)]
    · have e : (out ++ [(⟨a, b⟩ : S37)]) ++ runP (a + 1) (b + 1) d = out ++ runP a b (d + 1) := by rw [List.append_assoc]; rfl
      rw [e, show b + 1 + (d : Int) = b + ((d + 1 : Nat) : Int) by omega]
      exact he
theorem pairs_loop (s : List S53) (n m : Int) (hn : n ≤ 4194304) (hm : m ≤ 4194304) (hs : s.length ≤ 4000000000) (d : Nat) : ∀ (i : Nat) (out : List S37) (a b : Int), i + d = s.length → validP n m (s.drop i) a b → 0 ≤ a → a ≤ n → 0 ≤ b → b ≤ m → (out.length : Int) ≤ a →
    Ev (fun k => selvageref06_pairs.l0 k s n out a b (i : Int)) (out ++ pairsL n (s.drop i) a b) := by
  have w1 : ∀ i : Nat, i ≤ 4000000000 → wrap64 ((i : Int) + 1) = ((i + 1 : Nat) : Int) := fun i h => w_add i 1 (by omega)
  induction d with
  | zero =>
    intro i out a b hd hv ha han hb hbm ho
    rw [List.drop_of_length_le (by omega)] at hv ⊢
    have hv' : n - a = m - b := hv
    refine Ev.step (f := fun k => selvageref06_pairs.j1 k s n out a b (i : Int) n) (fun k => ?_) ?_
    · simp only [selvageref06_pairs.l0]
      rw [if_pos (by omega), if_neg (by omega)]
    · refine Ev.step (f := fun k => selvageref06_pairs.l1 k s n out a b (i : Int) n) (fun k => by simp only [selvageref06_pairs.j1]) ?_
      refine pairs_inner s n i n hn (n - a).toNat out a b (by omega) ha hb (by omega) (by omega) ?_
      refine Ev.same (G := fun k => selvageref06_pairs.l0 k s n (out ++ runP a b (n - a).toNat) n (b + ((n - a).toNat : Int)) ((i + 1 : Nat) : Int)) (fun k => ?_) ?_
      · rw [if_neg (by omega), w1 i (by omega)]
      · refine Ev.step (f := fun _ => some (out ++ runP a b (n - a).toNat)) (fun k => ?_) (Ev.pure _)
        simp only [selvageref06_pairs.l0]
        rw [if_neg (by omega)]
  | succ d ih =>
    intro i out a b hd hv ha han hb hbm ho
    rw [drop53 s i (by omega)] at hv ⊢
    obtain ⟨⟨h1, h2, h3, h4, h5, h6, h7, h8, h9, h10⟩, hv2⟩ := hv
    have e5 : wrap64 ((rd_T53 s (i : Int)).f0 + (rd_T53 s (i : Int)).f1) = (rd_T53 s (i : Int)).f0 + (rd_T53 s (i : Int)).f1 := w64' (by omega) (by omega)
    have e6 : wrap64 ((rd_T53 s (i : Int)).f2 + (rd_T53 s (i : Int)).f3) = (rd_T53 s (i : Int)).f2 + (rd_T53 s (i : Int)).f3 := w64' (by omega) (by omega)
    refine Ev.step (f := fun k => selvageref06_pairs.j1 k s n out a b (i : Int) (rd_T53 s (i : Int)).f0) (fun k => ?_) ?_
    · simp only [selvageref06_pairs.l0]
      rw [if_pos (by omega), if_pos (by omega), if_pos (by omega)]
    · refine Ev.step (f := fun k => selvageref06_pairs.l1 k s n out a b (i : Int) (rd_T53 s (i : Int)).f0) (fun k => by simp only [selvageref06_pairs.j1]) ?_
      refine pairs_inner s n i _ (by omega) ((rd_T53 s (i : Int)).f0 - a).toNat out a b (by omega) ha hb (by omega) (by omega) ?_
      refine Ev.same (G := fun k => selvageref06_pairs.l0 k s n (out ++ runP a b ((rd_T53 s (i : Int)).f0 - a).toNat) ((rd_T53 s (i : Int)).f0 + (rd_T53 s (i : Int)).f1) ((rd_T53 s (i : Int)).f2 + (rd_T53 s (i : Int)).f3) ((i + 1 : Nat) : Int)) (fun k => ?_) ?_
      · rw [if_pos (by omega), if_pos (by omega), w1 i (by omega), e5, e6]
      · have := ih (i + 1) (out ++ runP a b ((rd_T53 s (i : Int)).f0 - a).toNat) _ _ (by omega) hv2 (by omega) (by omega) (by omega) (by omega) (by rw [List.length_append, runP_length]; omega)
        rw [List.append_assoc] at this
        exact this
def gap (a b x y : Int) : List S53 := if a < x ∨ b < y then [⟨a, x - a, b, y - b⟩] else []
theorem gap_none (a b : Int) : gap a b a b = [] := by unfold gap; rw [if_neg (by omega)]
theorem gap_some {a b x y : Int} (h : a < x ∨ b < y) : gap a b x y = [⟨a, x - a, b, y - b⟩] := by unfold gap; rw [if_pos h]
def inO (n m : Int) : List S37 → Int → Int → Prop
  | [], _, _ => True
  | p :: t, a, b => a ≤ p.f0 ∧ b ≤ p.f1 ∧ p.f0 < n ∧ p.f1 < m ∧ inO n m t (p.f0 + 1) (p.f1 + 1)
theorem inO_weaken {n m : Int} {l : List S37} {a b a' b' : Int} (h : inO n m l a b) (ha : a' ≤ a) (hb : b' ≤ b) : inO n m l a' b' := by
  cases l with
  | nil => exact trivial
  | cons p t => obtain ⟨h1, h2, h3⟩ := h; exact ⟨by omega, by omega, h3⟩
theorem inO_run {n m : Int} {rest : List S37} (d : Nat) : ∀ (a b pa pb : Int), pa ≤ a → pb ≤ b → a + (d : Int) ≤ n → b + (d : Int) ≤ m → inO n m rest (a + (d : Int)) (b + (d : Int)) → inO n m (runP a b d ++ rest) pa pb := by
  induction d with
  | zero => intro a b pa pb h1 h2 h3 h4 h; exact inO_weaken h (by omega) (by omega)
  | succ d ih =>
    intro a b pa pb h1 h2 h3 h4 h
    refine ⟨h1, h2, by show a < n; omega, by show b < m; omega, ih (a + 1) (b + 1) (a + 1) (b + 1) (by omega) (by omega) (by omega) (by omega) ?_⟩
    rw [show a + 1 + (d : Int) = a + ((d + 1 : Nat) : Int) by omega, show b + 1 + (d : Int) = b + ((d + 1 : Nat) : Int) by omega]
    exact h
theorem inO_pairs (n m : Int) : ∀ (s : List S53) (a b : Int), validP n m s a b → a ≤ n → b ≤ m → inO n m (pairsL n s a b) a b
  | [], a, b, hv, ha, hb => by
    have hv' : n - a = m - b := hv
    have := inO_run (n := n) (m := m) (rest := []) (n - a).toNat a b a b (by omega) (by omega) (by omega) (by omega) trivial
    rw [List.append_nil] at this
    exact this
  | c :: t, a, b, hv, ha, hb => by
    obtain ⟨⟨h1, h2, h3, h4, h5, h6, h7, h8, h9, h10⟩, hv2⟩ := hv
    exact inO_run (c.f0 - a).toNat a b a b (by omega) (by omega) (by omega) (by omega) (inO_weaken (inO_pairs n m t _ _ hv2 (by omega) (by omega)) (by omega) (by omega))
def nrm : List S53 → Int → Int → Int → Int → List S53
  | [], pa, pb, qa, qb => gap pa pb qa qb
  | c :: t, pa, pb, qa, qb => if qa < c.f0 then gap pa pb qa qb ++ nrm t c.f0 c.f2 (c.f0 + c.f1) (c.f2 + c.f3) else nrm t pa pb (c.f0 + c.f1) (c.f2 + c.f3)
theorem validS_none {s : List S53} {n m : Int} (h : validS s n m = none) : n ≤ 4194304 ∧ m ≤ 4194304 ∧ validP n m s 0 0 := by
  unfold validS at h
  split at h
  · cases h
  · rename_i hc
    refine ⟨by omega, by omega, ?_⟩
    unfold errP at h
    split at h
    · assumption
    · cases h
noncomputable def normS (s : List S53) (n m : Int) : List S53 × Option Int := if (validS s n m).isNone = true then (nrm s 0 0 0 0, none) else ([], validS s n m)
end Go.Proofs.YtecjoofjiockkaaDoor.Pure
namespace Go.Proofs.YtecjoofjiockkaaDoor.Pure
open Go.RowKit Go.Proofs.YtecjoofjiockkaaDoor.Pp Go.Proofs.YtecjoofjiockkaaDoor.Ext Go.Proofs.YtecjoofjiockkaaDoorW.PrintWords Go.Proofs.YtecjoofjiockkaaDoorW.PrintLast Go.Proofs.YtecjoofjiockkaaDoorW.PrintMore
set_option linter.unusedVariables false
set_option linter.unusedSimpArgs false
theorem set_last (d : List S53) (x y : S53) : (d ++ [x]).set d.length y = d ++ [y] := by
  rw [List.set_append_right _ _ (Nat.le_refl _), Nat.sub_self]; rfl
theorem rd_last (d : List S53) (x : S53) : rd_T53 (d ++ [x]) (d.length : Int) = x := by
  unfold rd_T53
  rw [Int.toNat_natCast, List.getD_eq_getElem?_getD, List.getElem?_append_right (Nat.le_refl _), Nat.sub_self]; rfl
theorem norm_app (k : Nat) (L s : List S53) (i : Nat) (x c : S53) (hi : i < s.length) (hs : s.length ≤ 4000000000) (hL : 0 < L.length) (hL2 : L.length ≤ 4000000001) (hx : rd_T53 L ((L.length - 1 : Nat) : Int) = x) (hc : rd_T53 s (i : Int) = c) (hne : ¬ wrap64 (x.f0 + x.f1) = c.f0) :
    edits_Normal.l0 (k + 1) L s (s.length : Int) (i : Int) = edits_Normal.l0 k (L ++ [⟨c.f0, c.f1, c.f2, c.f3⟩]) s (s.length : Int) ((i + 1 : Nat) : Int) := by
  have w1 : wrap64 ((i : Int) + 1) = ((i + 1 : Nat) : Int) := w_add i 1 (by omega)
  have wl : wrap64 ((L.length : Int) - 1) = ((L.length - 1 : Nat) : Int) := by rw [w64' (by omega) (by omega)]; omega
  rw [edits_Normal.l0, if_pos (by omega), if_pos (by omega), if_pos (by omega), wl, hx, hc, w1, if_pos (by omega), if_pos (by omega), if_pos (by omega), if_neg hne, if_pos (by omega)]
theorem norm_mrg (k : Nat) (L s : List S53) (i : Nat) (x c y _z : S53) (L1 L2 : List S53) (hi : i < s.length) (hs : s.length ≤ 4000000000) (hL : 0 < L.length) (hL2 : L.length ≤ 4000000001) (hx : rd_T53 L ((L.length - 1 : Nat) : Int) = x) (hc : rd_T53 s (i : Int) = c) (he : wrap64 (x.f0 + x.f1) = c.f0)
    (h1 : L.set (L.length - 1) ⟨x.f0, wrap64 (x.f1 + c.f1), x.f2, x.f3⟩ = L1) (hy : rd_T53 L1 ((L.length - 1 : Nat) : Int) = y) (h2 : L1.set (L.length - 1) ⟨y.f0, y.f1, y.f2, wrap64 (y.f3 + c.f3)⟩ = L2) :
    edits_Normal.l0 (k + 1) L s (s.length : Int) (i : Int) = edits_Normal.l0 k L2 s (s.length : Int) ((i + 1 : Nat) : Int) := by
  have w1 : wrap64 ((i : Int) + 1) = ((i + 1 : Nat) : Int) := w_add i 1 (by omega)
  have wl : wrap64 ((L.length : Int) - 1) = ((L.length - 1 : Nat) : Int) := by rw [w64' (by omega) (by omega)]; omega
  rw [edits_Normal.l0, if_pos (by omega), if_pos (by omega), if_pos (by omega), wl, hx, hc, w1, if_pos (by omega), if_pos (by omega), if_pos (by omega), if_pos he, Int.toNat_natCast, h1, Option.bind_some, hy, h2]
theorem norm_loop (s : List S53) (n m : Int) (hn : n ≤ 4194304) (hm : m ≤ 4194304) (hs : s.length ≤ 4000000000) (d : Nat) : ∀ (i : Nat) (dn : List S53) (pa pb qa qb : Int), i + d = s.length → validP n m (s.drop i) qa qb → 0 ≤ pa → pa ≤ qa → qa ≤ n → 0 ≤ pb → pb ≤ qb → qb ≤ m → (pa < qa ∨ pb < qb) → dn.length ≤ i →
    Ev (fun k => edits_Normal.l0 k (dn ++ [⟨pa, qa - pa, pb, qb - pb⟩]) s (s.length : Int) (i : Int)) (dn ++ nrm (s.drop i) pa pb qa qb, none) := by
  induction d with
  | zero =>
    intro i dn pa pb qa qb hd hv a1 a2 a3 a4 a5 a6 a7 a8
    rw [List.drop_of_length_le (by omega)]
    refine Ev.step (f := fun _ => some (dn ++ nrm [] pa pb qa qb, none)) (fun k => ?_) (Ev.pure _)
    simp only [edits_Normal.l0, nrm]
    rw [if_neg (by omega), gap_some a7]
  | succ d ih =>
    intro i dn pa pb qa qb hd hv a1 a2 a3 a4 a5 a6 a7 a8
    rw [drop53 s i (by omega)] at hv ⊢
    obtain ⟨⟨h1, h2, h3, h4, h5, h6, h7, h8, h9, h10⟩, hv2⟩ := hv
    generalize hc : rd_T53 s (i : Int) = c at h1 h2 h3 h4 h5 h6 h7 h8 h9 h10 hv2 ⊢
    have hl : (dn ++ [(⟨pa, qa - pa, pb, qb - pb⟩ : S53)]).length = dn.length + 1 := by rw [List.length_append, List.length_singleton]
    have hx : rd_T53 (dn ++ [(⟨pa, qa - pa, pb, qb - pb⟩ : S53)]) (((dn ++ [(⟨pa, qa - pa, pb, qb - pb⟩ : S53)]).length - 1 : Nat) : Int) = ⟨pa, qa - pa, pb, qb - pb⟩ := by rw [hl, Nat.add_sub_cancel]; exact rd_last _ _
    have wq : wrap64 (pa + (qa - pa)) = qa := by rw [w64' (by omega) (by omega)]; omega
    by_cases q : qa < c.f0
    · have := ih (i + 1) (dn ++ [⟨pa, qa - pa, pb, qb - pb⟩]) c.f0 c.f2 (c.f0 + c.f1) (c.f2 + c.f3) (by omega) hv2 (by omega) (by omega) (by omega) (by omega) (by omega) (by omega) (by omega) (by omega)
      have en : dn ++ nrm (c :: s.drop (i + 1)) pa pb qa qb = (dn ++ [⟨pa, qa - pa, pb, qb - pb⟩]) ++ nrm (s.drop (i + 1)) c.f0 c.f2 (c.f0 + c.f1) (c.f2 + c.f3) := by
        simp only [nrm]; rw [if_pos q, gap_some a7, List.append_assoc]
      have ec : (⟨c.f0, c.f0 + c.f1 - c.f0, c.f2, c.f2 + c.f3 - c.f2⟩ : S53) = ⟨c.f0, c.f1, c.f2, c.f3⟩ := by rw [show c.f0 + c.f1 - c.f0 = c.f1 by omega, show c.f2 + c.f3 - c.f2 = c.f3 by omega]
      rw [en]
      rw [ec] at this
      exact Ev.step (fun k => norm_app k _ s i _ c (by omega) hs (by omega) (by omega) hx hc (by show ¬ wrap64 (pa + (qa - pa)) = c.f0; rw [wq]; omega)) this
    · have := ih (i + 1) dn pa pb (c.f0 + c.f1) (c.f2 + c.f3) (by omega) hv2 (by omega) (by omega) (by omega) (by omega) (by omega) (by omega) (by omega) (by omega)
      have en : nrm (c :: s.drop (i + 1)) pa pb qa qb = nrm (s.drop (i + 1)) pa pb (c.f0 + c.f1) (c.f2 + c.f3) := by simp only [nrm]; rw [if_neg q]
      rw [en]
      refine Ev.step (fun k => norm_mrg k _ s i _ c ⟨pa, c.f0 + c.f1 - pa, pb, qb - pb⟩ c (dn ++ [⟨pa, c.f0 + c.f1 - pa, pb, qb - pb⟩]) (dn ++ [⟨pa, c.f0 + c.f1 - pa, pb, c.f2 + c.f3 - pb⟩]) (by omega) hs (by omega) (by omega) hx hc (by show wrap64 (pa + (qa - pa)) = c.f0; rw [wq]; omega) ?_ ?_ ?_) this
      · rw [hl, Nat.add_sub_cancel, set_last]
        show dn ++ [(⟨pa, wrap64 (qa - pa + c.f1), pb, qb - pb⟩ : S53)] = _
        rw [w64' (by omega) (by omega), show qa - pa + c.f1 = c.f0 + c.f1 - pa by omega]
      · rw [hl, Nat.add_sub_cancel]; exact rd_last _ _
      · rw [hl, Nat.add_sub_cancel, set_last]
        show dn ++ [(⟨pa, c.f0 + c.f1 - pa, pb, wrap64 (qb - pb + c.f3)⟩ : S53)] = _
        rw [w64' (by omega) (by omega), show qb - pb + c.f3 = c.f2 + c.f3 - pb by omega]
theorem norm_at (s : List S53) (hs : s.length ≤ 4000000000) (n m : Int) (hn0 : 0 ≤ n) (hm0 : 0 ≤ m) : Ev (fun k => edits_Normal.f k s n m) (normS s n m) := by
  refine Ev.bind (valid_at s hs n m hn0 hm0) ?_
  unfold normS
  cases hv : validS s n m with
  | some e =>
    refine Ev.same (G := fun _ => some ([], some e)) (fun k => ?_) ?_
    · rw [if_neg (by simp)]; rfl
    · rw [if_neg (by simp)]; exact Ev.pure _
  | none =>
    obtain ⟨hn, hm, hp⟩ := validS_none hv
    rw [if_pos (show (none : Option Int).isNone = true from rfl)]
    refine Ev.same (G := fun k => edits_Normal.l0 k [] s (s.length : Int) 0) (fun k => by rw [if_pos (show (none : Option Int).isNone = true from rfl)]) ?_
    cases s with
    | nil =>
      refine Ev.step (f := fun _ => some ([], none)) (fun k => ?_) ?_
      · simp only [edits_Normal.l0]; rw [if_neg (by simp)]
      · show Ev _ (gap 0 0 0 0, none)
        rw [gap_none]; exact Ev.pure _
    | cons c t =>
      obtain ⟨⟨h1, h2, h3, h4, h5, h6, h7, h8, h9, h10⟩, hv2⟩ := hp
      have hl : (c :: t).length = t.length + 1 := rfl
      have := norm_loop (c :: t) n m hn hm hs t.length 1 [] c.f0 c.f2 (c.f0 + c.f1) (c.f2 + c.f3) (by omega) hv2 (by omega) (by omega) (by omega) (by omega) (by omega) (by omega) (by omega) (by simp)
      have ec : (⟨c.f0, c.f0 + c.f1 - c.f0, c.f2, c.f2 + c.f3 - c.f2⟩ : S53) = ⟨c.f0, c.f1, c.f2, c.f3⟩ := by rw [show c.f0 + c.f1 - c.f0 = c.f1 by omega, show c.f2 + c.f3 - c.f2 = c.f3 by omega]
      have en : nrm (c :: t) 0 0 0 0 = nrm t c.f0 c.f2 (c.f0 + c.f1) (c.f2 + c.f3) := by
        simp only [nrm]
        by_cases q : 0 < c.f0
        · rw [if_pos q, gap_none, List.nil_append]
        · rw [if_neg q, show c.f0 = 0 by omega, show c.f2 = 0 by omega]
      rw [en]
      rw [ec, List.nil_append, List.nil_append, List.drop_one, List.tail_cons] at this
      refine Ev.step (fun k => ?_) this
      have hw : wrap64 ((([] : List S53).length : Int) - 1) = -1 := by rw [w64' (by simp) (by simp)]; simp
      have hw2 : wrap64 (0 + 1) = 1 := by rw [w64' (by omega) (by omega)]; omega
      have hr : rd_T53 (c :: t) 0 = c := rfl
      simp only [edits_Normal.l0, hw, hw2, hr]
      rw [if_pos (by rw [hl]; omega), if_pos (by omega), if_pos (by rw [hl]; omega), if_neg (by omega), if_pos (by simp)]
      rfl
end Go.Proofs.YtecjoofjiockkaaDoor.Pure
namespace Go.Proofs.YtecjoofjiockkaaDoor.Pure
open Go.RowKit Go.Proofs.YtecjoofjiockkaaDoor.Pp Go.Proofs.YtecjoofjiockkaaDoor.Ext Go.Proofs.YtecjoofjiockkaaDoorW.PrintWords Go.Proofs.YtecjoofjiockkaaDoorW.PrintLast Go.Proofs.YtecjoofjiockkaaDoorW.PrintMore
set_option linter.unusedVariables false
set_option linter.unusedSimpArgs false
theorem nrm_valid (n m : Int) : ∀ (s : List S53) (pa pb qa qb a b : Int), validP n m s qa qb → pa ≤ qa → pb ≤ qb → (pa < qa ∨ pb < qb) → a ≤ pa → b ≤ pb → pa - a = pb - b → qa ≤ n → qb ≤ m → validP n m (nrm s pa pb qa qb) a b
  | [], pa, pb, qa, qb, a, b, hv, h1, h2, h3, h4, h5, h6, h7, h8 => by
    have hv' : n - qa = m - qb := hv
    simp only [nrm]
    rw [gap_some h3]
    refine ⟨⟨?_, ?_, ?_, ?_, ?_, ?_, ?_, ?_, ?_, ?_⟩, ?_⟩
    all_goals first | (show n - (pa + (qa - pa)) = m - (pb + (qb - pb)); omega) | (simp only; omega)
  | c :: t, pa, pb, qa, qb, a, b, hv, h1, h2, h3, h4, h5, h6, h7, h8 => by
    obtain ⟨⟨q1, q2, q3, q4, q5, q6, q7, q8, q9, q10⟩, hv2⟩ := hv
    simp only [nrm]
    by_cases q : qa < c.f0
    · rw [if_pos q, gap_some h3]
      refine ⟨⟨?_, ?_, ?_, ?_, ?_, ?_, ?_, ?_, ?_, ?_⟩, ?_⟩
      all_goals first
        | (simp only; omega)
        | (show validP n m (nrm t c.f0 c.f2 (c.f0 + c.f1) (c.f2 + c.f3)) (pa + (qa - pa)) (pb + (qb - pb))
           rw [show pa + (qa - pa) = qa by omega, show pb + (qb - pb) = qb by omega]
           exact nrm_valid n m t _ _ _ _ _ _ hv2 (by omega) (by omega) (by omega) (by omega) (by omega) (by omega) (by omega) (by omega))
    · rw [if_neg q]
      exact nrm_valid n m t _ _ _ _ _ _ hv2 (by omega) (by omega) (by omega) (by omega) (by omega) (by omega) (by omega) (by omega)
theorem nrm_start (c : S53) (t : List S53) (n m : Int) (h : okC n m 0 0 c) : nrm (c :: t) 0 0 0 0 = nrm t c.f0 c.f2 (c.f0 + c.f1) (c.f2 + c.f3) := by
  obtain ⟨q1, q2, q3, q4, q5, q6, q7, q8, q9, q10⟩ := h
  simp only [nrm]
  by_cases q : 0 < c.f0
  · rw [if_pos q, gap_none, List.nil_append]
  · rw [if_neg q, show c.f0 = 0 by omega, show c.f2 = 0 by omega]
theorem nrm_valid0 (n m : Int) (s : List S53) (hv : validP n m s 0 0) : validP n m (nrm s 0 0 0 0) 0 0 := by
  cases s with
  | nil => show validP n m (gap 0 0 0 0) 0 0; rw [gap_none]; exact hv
  | cons c t =>
    obtain ⟨h, hv2⟩ := hv
    rw [nrm_start c t n m h]
    obtain ⟨q1, q2, q3, q4, q5, q6, q7, q8, q9, q10⟩ := h
    exact nrm_valid n m t _ _ _ _ _ _ hv2 (by omega) (by omega) (by omega) (by omega) (by omega) (by omega) (by omega) (by omega)
theorem gap_length (a b x y : Int) : (gap a b x y).length ≤ 1 := by unfold gap; split <;> simp
theorem nrm_length : ∀ (s : List S53) (pa pb qa qb : Int), (nrm s pa pb qa qb).length ≤ s.length + 1
  | [], pa, pb, qa, qb => gap_length _ _ _ _
  | c :: t, pa, pb, qa, qb => by
    simp only [nrm, List.length_cons]
    split
    · have := nrm_length t c.f0 c.f2 (c.f0 + c.f1) (c.f2 + c.f3)
      have := gap_length pa pb qa qb
      rw [List.length_append]; omega
    · have := nrm_length t pa pb (c.f0 + c.f1) (c.f2 + c.f3)
      omega
theorem normS_valid {s L : List S53} {n m : Int} (h : normS s n m = (L, none)) : n ≤ 4194304 ∧ m ≤ 4194304 ∧ validP n m L 0 0 ∧ L.length ≤ s.length + 1 := by
  unfold normS at h
  split at h
  · rename_i hc
    have hv : validS s n m = none := by simpa using hc
    obtain ⟨h1, h2, h3⟩ := validS_none hv
    obtain rfl : nrm s 0 0 0 0 = L := (Prod.mk.inj h).1
    exact ⟨h1, h2, nrm_valid0 n m s h3, nrm_length s 0 0 0 0⟩
  · rename_i hc
    have := (Prod.mk.inj h).2
    rw [this] at hc
    exact absurd rfl hc
theorem runL_run (a b : Int) (ha : 0 ≤ a) (hb : 0 ≤ b) (d : Nat) : ∀ i : Nat, a + (i : Int) + (d : Int) ≤ 4194304 → b + (i : Int) + (d : Int) ≤ 4194304 → runL a b i d = runP (a + (i : Int)) (b + (i : Int)) d := by
  induction d with
  | zero => intro i _ _; rfl
  | succ d ih =>
    intro i h1 h2
    have e1 : wrap64 (a + (i : Int)) = a + (i : Int) := w64' (by omega) (by omega)
    have e2 : wrap64 (b + (i : Int)) = b + (i : Int) := w64' (by omega) (by omega)
    rw [runL, runP, e1, e2, ih (i + 1) (by omega) (by omega), show a + ((i + 1 : Nat) : Int) = a + (i : Int) + 1 by omega, show b + ((i + 1 : Nat) : Int) = b + (i : Int) + 1 by omega]
theorem runL_zero (a b x : Int) (ha : 0 ≤ a) (hb : 0 ≤ b) (hx : a ≤ x) (hx2 : x ≤ 4194304) (hy : b + (x - a) ≤ 4194304) : runL a b 0 (wrap64 (x - a)).toNat = runP a b (x - a).toNat := by
  have e : wrap64 (x - a) = x - a := w64' (by omega) (by omega)
  rw [e, runL_run a b ha hb _ 0 (by omega) (by omega), show a + ((0 : Nat) : Int) = a by omega, show b + ((0 : Nat) : Int) = b by omega]
theorem stay_pairs (n m : Int) (hn : n ≤ 4194304) (hm : m ≤ 4194304) : ∀ (s : List S53) (a b : Int) (out : List S37), validP n m s a b → 0 ≤ a → 0 ≤ b → a ≤ n → b ≤ m → pairsStay n s a b out = out ++ pairsL n s a b
  | [], a, b, out, hv, ha, hb, h1, h2 => by
    have hv' : n - a = m - b := hv
    rw [pairsStay, pairsL, runL_zero a b n ha hb h1 hn (by omega)]
  | c :: t, a, b, out, hv, ha, hb, h1, h2 => by
    obtain ⟨⟨q1, q2, q3, q4, q5, q6, q7, q8, q9, q10⟩, hv2⟩ := hv
    have e1 : wrap64 (c.f0 + c.f1) = c.f0 + c.f1 := w64' (by omega) (by omega)
    have e2 : wrap64 (c.f2 + c.f3) = c.f2 + c.f3 := w64' (by omega) (by omega)
    rw [pairsStay, pairsL, e1, e2, runL_zero a b c.f0 ha hb q4 (by omega) (by omega), stay_pairs n m hn hm t _ _ _ hv2 (by omega) (by omega) (by omega) (by omega), List.append_assoc]
theorem pairs_at (L : List S53) (hL : L.length ≤ 4000000000) (n m : Int) (hn0 : 0 ≤ n) (hm0 : 0 ≤ m) (hn : n ≤ 4194304) (hm : m ≤ 4194304) (hv : validP n m L 0 0) : Ev (fun k => edits_Pairs.f k L n m) (pairsL n L 0 0, none) := by
  have h1 : validS L n m = none := by unfold validS; rw [if_neg (by omega), errP_pos hv]
  have h2 := valid_at L hL n m hn0 hm0
  rw [h1] at h2
  have h3 := pairsL_length n m L 0 0 hv hn0
  have h4 := stay_pairs n m hn hm L 0 0 [] hv (by omega) (by omega) hn0 hm0
  rw [List.nil_append] at h4
  refine Ev.same (fun k => by unfold edits_Pairs.f; rw [if_pos (by omega)]) (Ev.bind h2 (Ev.same (fun k => if_pos rfl) ?_))
  rw [h4]
  exact Ev.same (fun k => if_pos (by omega)) (Ev.pure _)
theorem rpairs_at (L : List S53) (hL : L.length ≤ 4000000000) (n m : Int) (hn0 : 0 ≤ n) (hm0 : 0 ≤ m) (hn : n ≤ 4194304) (hm : m ≤ 4194304) (hv : validP n m L 0 0) : Ev (fun k => selvageref06_Pairs.f k L n m) (pairsL n L 0 0, 0) := by
  have h1 : validS L n m = none := by unfold validS; rw [if_neg (by omega), errP_pos hv]
  have h2 := rvalid_at L hL n m hn0 hm0
  rw [h1] at h2
  have h3 := pairs_loop L n m hn hm hL L.length 0 [] 0 0 (by omega) (by rw [List.drop_zero]; exact hv) (by omega) hn0 (by omega) hm0 (by simp)
  rw [List.drop_zero, List.nil_append] at h3
  exact Ev.bind h2 (Ev.same (fun k => if_pos rfl) (Ev.bind h3 (Ev.pure _)))
end Go.Proofs.YtecjoofjiockkaaDoor.Pure
namespace Go.Proofs.YtecjoofjiockkaaDoor.Pure
open Go.RowKit Go.Proofs.YtecjoofjiockkaaDoor.Pp Go.Proofs.YtecjoofjiockkaaDoor.Ext Go.Proofs.YtecjoofjiockkaaDoorW.PrintWords Go.Proofs.YtecjoofjiockkaaDoorW.PrintLast Go.Proofs.YtecjoofjiockkaaDoorW.PrintMore
set_option linter.unusedVariables false
set_option linter.unusedSimpArgs false
abbrev Row := S56
abbrev Hunk := S41
def isOld (r : Row) : Bool := r.f0 == 1 || r.f0 == 2
def isNew (r : Row) : Bool := r.f0 == 1 || r.f0 == 3
def good (r : Row) (e o : Bool) : Bool := (isOld r || isNew r) && line r.f1 && !(isOld r && e) && !(isNew r && o)
def rowsOk : List Row → Bool → Bool → Bool → Bool
  | [], _, _, ch => ch
  | r :: t, e, o, ch => if good r e o = true then rowsOk t (e || (isOld r && !whole r.f1)) (o || (isNew r && !whole r.f1)) (ch || (r.f0 != 1)) else false
def cntOld (l : List Row) : Nat := l.countP isOld
def cntNew (l : List Row) : Nat := l.countP isNew
theorem kinds (r : Row) : (r.f0 = 1 ∧ isOld r = true ∧ isNew r = true) ∨ (r.f0 = 2 ∧ isOld r = true ∧ isNew r = false) ∨ (r.f0 = 3 ∧ isOld r = false ∧ isNew r = true) ∨
    ((r.f0 ≠ 1 ∧ r.f0 ≠ 2 ∧ r.f0 ≠ 3) ∧ isOld r = false ∧ isNew r = false) := by
  by_cases h1 : r.f0 = 1
  · left; simp [isOld, isNew, h1]
  · by_cases h2 : r.f0 = 2
    · right; left; simp [isOld, isNew, h2]
    · by_cases h3 : r.f0 = 3
      · right; right; left; simp [isOld, isNew, h3]
      · right; right; right; simp [isOld, isNew, h1, h2, h3]
def placeOk (a n : Int) : Bool := decide (0 ≤ n ∧ 0 ≤ a ∧ (0 < a ∨ n = 0) ∧ a ≤ 2147483647 ∧ n ≤ 2147483647 - a)
def headOk (s : ByteArray) : Bool := decide (s.size ≤ 4096) && !decide (∃ j, j < s.size ∧ bt s ((j : Nat) : Int) = 10)
def hunkOk (h : Hunk) : Bool := rowsOk h.f5 false false false && decide (h.f1 = cntOld h.f5) && decide (h.f3 = cntNew h.f5) && placeOk h.f0 h.f1 && placeOk h.f2 h.f3 && headOk h.f4
theorem add_at (c : Int) (e : Bool) (s : ByteArray) (hs : s.size ≤ 4000000000) : hunks_side_add.f c e s = some (if e = true then (false, c, e) else (true, wrap64 (c + 1), !whole s)) := by
  unfold hunks_side_add.f
  cases e with
  | true => rfl
  | false => rw [if_neg (by simp), whole_at s hs, if_neg (by simp)]; rfl
structure Small (h : Hunk) : Prop where
  rows : h.f5.length ≤ 1048576
  texts : ∀ r ∈ h.f5, r.f1.size ≤ 1048576
  head : h.f4.size ≤ 1048576
  a : -9223372036854775808 ≤ h.f0 ∧ h.f0 ≤ 9223372036854775807
  b : -9223372036854775808 ≤ h.f2 ∧ h.f2 ≤ 9223372036854775807
theorem rd_row (l : List Row) (i : Nat) : rd_T56 l ((i : Nat) : Int) = l.getD i z56 := by show l.getD ((i : Int)).toNat _ = _; simp
end Go.Proofs.YtecjoofjiockkaaDoor.Pure
namespace Go.Proofs.YtecjoofjiockkaaDoor.Pure
open Go.RowKit Go.Proofs.YtecjoofjiockkaaDoor.Pp Go.Proofs.YtecjoofjiockkaaDoor.Ext Go.Proofs.YtecjoofjiockkaaDoorW.PrintWords Go.Proofs.YtecjoofjiockkaaDoorW.PrintLast Go.Proofs.YtecjoofjiockkaaDoorW.PrintMore
set_option linter.unusedVariables false
set_option linter.unusedSimpArgs false
theorem mem_sum {α : Type} (f : α → Nat) : ∀ (l : List α), ∀ x ∈ l, f x ≤ (l.map f).sum
  | [], _, h => by cases h
  | y :: t, x, h => by
    rw [List.map_cons, List.sum_cons]
    rcases List.mem_cons.mp h with rfl | h
    · omega
    · have := mem_sum f t x h; omega
theorem len_sum {α : Type} (f : α → Nat) (c : Nat) (hf : ∀ x, c ≤ f x) : ∀ (l : List α), c * l.length ≤ (l.map f).sum
  | [] => by simp
  | y :: t => by
    have h1 := len_sum f c hf t
    have h2 := hf y
    rw [List.map_cons, List.sum_cons, List.length_cons, Nat.mul_add]; omega
def rowsSum (l : List Hunk) : Nat := (l.map fun h => h.f5.length).sum
theorem rd_hunk (l : List Hunk) (i : Nat) : rd_T41 l ((i : Nat) : Int) = l.getD i z41 := by show l.getD ((i : Int)).toNat _ = _; simp
structure Hs (l : List Hunk) : Prop where
  all : ∀ h ∈ l, Small h
  count : l.length ≤ 1048576
  rows : rowsSum l ≤ 1048576
theorem same_loop (h : Hunk) (hr : h.f5.length ≤ 4000000000) (d : Nat) : ∀ j : Nat, j + d = h.f5.length →
    Ev (fun k => selvagelaw10_same.l0 k (j : Int) h.f0 h.f1 h.f2 h.f3 h.f4 h.f5 h.f0 h.f1 h.f2 h.f3 h.f4 h.f5) true := by
  induction d with
  | zero =>
    intro j hj
    exact Ev.step (f := fun _ => some true) (fun k => by rw [selvagelaw10_same.l0, if_neg (by omega)]) (Ev.pure _)
  | succ d ih =>
    intro j hj
    have w1 : wrap64 ((j : Int) + 1) = ((j + 1 : Nat) : Int) := w_add j 1 (by omega)
    refine Ev.step (fun k => ?_) (ih (j + 1) (by omega))
    rw [selvagelaw10_same.l0, w1, if_pos (by omega), if_pos (by omega), if_pos (by omega), if_neg (by simp)]
theorem same_at (h : Hunk) (hr : h.f5.length ≤ 4000000000) : Ev (fun k => selvagelaw10_same.f k h.f0 h.f1 h.f2 h.f3 h.f4 h.f5 h.f0 h.f1 h.f2 h.f3 h.f4 h.f5) true := by
  unfold selvagelaw10_same.f
  refine Ev.same (fun k => by rw [if_pos rfl, if_pos rfl, if_pos rfl, if_pos rfl, if_pos rfl, bne_self_eq_false]) ?_
  exact Ev.step (fun k => by rw [selvagelaw10_same.j0, if_neg (by simp)]; rfl) (same_loop h hr _ 0 (Nat.zero_add _))
theorem works_60 : selvagelaw10_works.f 60 = some true := by decide +kernel
theorem ev_works : Ev (fun k => selvagelaw10_works.f k) true := Ev.of (fun k => selvagelaw10_works.mono k) works_60
end Go.Proofs.YtecjoofjiockkaaDoor.Pure
namespace Go.Proofs.YtecjoofjiockkaaDoor.Pure
open Go.RowKit Go.Proofs.YtecjoofjiockkaaDoor.Pp Go.Proofs.YtecjoofjiockkaaDoor.Ext Go.Proofs.YtecjoofjiockkaaDoorW.PrintWords Go.Proofs.YtecjoofjiockkaaDoorW.PrintLast Go.Proofs.YtecjoofjiockkaaDoorW.PrintMore
set_option linter.unusedVariables false
set_option linter.unusedSimpArgs false
abbrev Chg := S53
def putL (o : Int) (T : List ByteArray) : List Row := T.map fun t => ⟨o, t⟩
abbrev cut (T : List ByteArray) (a b : Int) : List ByteArray := (T.take b.toNat).drop a.toNat
theorem cut_length (T : List ByteArray) (a b : Int) (ha : 0 ≤ a) (hab : a ≤ b) (hb : b ≤ (T.length : Int)) : ((cut T a b).length : Int) = b - a := by
  unfold cut
  rw [List.length_drop, List.length_take]
  omega
theorem putL_length (o : Int) (T : List ByteArray) : (putL o T).length = T.length := List.length_map _
def rowsG (A B : List ByteArray) : Int → List Chg → Int → List Row
  | a, [], e => putL 1 (cut A a e)
  | a, c :: t, e => putL 1 (cut A a c.f0) ++ (putL 2 (cut A c.f0 (c.f0 + c.f1)) ++ (putL 3 (cut B c.f2 (c.f2 + c.f3)) ++ rowsG A B (c.f0 + c.f1) t e))
def okG (n m e : Int) : List Chg → Int → Int → Prop
  | [], a, b => a ≤ e ∧ e ≤ n ∧ b ≤ m
  | c :: t, a, b => (a ≤ c.f0 ∧ 0 ≤ c.f1 ∧ c.f0 + c.f1 ≤ n ∧ b ≤ c.f2 ∧ 0 ≤ c.f3 ∧ c.f2 + c.f3 ≤ m) ∧ okG n m e t (c.f0 + c.f1) (c.f2 + c.f3)
def dM : List Chg → Int
  | [] => 0
  | c :: t => (c.f3 - c.f1) + dM t
theorem p_put_at (o : Int) (T : List ByteArray) (hT : T.length ≤ 5000000) (d : Nat) : ∀ (i : Nat) (x : List Row), i + d = T.length → x.length + d ≤ 20000000 → Ev (fun k => hunks_rows.l0 k x o T (T.length : Int) (i : Int)) (x ++ putL o (T.drop i)) := by
  induction d with
  | zero =>
    intro i x h _
    rw [List.drop_of_length_le (by omega)]
    exact Ev.step (f := fun _ => some x) (fun k => by rw [hunks_rows.l0, if_neg (by omega)]) (by unfold putL; rw [List.map_nil, List.append_nil]; exact Ev.pure _)
  | succ d ih =>
    intro i x h hx
    have w1 : wrap64 ((i : Int) + 1) = ((i + 1 : Nat) : Int) := w_add i 1 (by omega)
    have hi : i < T.length := by omega
    have h2 := ih (i + 1) (x ++ [⟨o, T.getD i ByteArray.empty⟩]) (by omega) (by simp; omega)
    have e : x ++ putL o (T.drop i) = (x ++ [⟨o, T.getD i ByteArray.empty⟩]) ++ putL o (T.drop (i + 1)) := by
      rw [drop_by T ByteArray.empty i hi]; unfold putL; simp
    rw [e]
    exact Ev.step (fun k => by rw [hunks_rows.l0, if_pos (by omega), if_pos (by omega), if_pos (by omega), if_pos (by omega), rd_nat, w1]) h2
theorem p_put (o : Int) (T : List ByteArray) (hT : T.length ≤ 5000000) (x : List Row) (hx : x.length + T.length ≤ 20000000) : Ev (fun k => hunks_rows.f k x o T) (x ++ putL o T) := by
  have := p_put_at o T hT T.length 0 x (by omega) hx
  rw [List.drop_zero] at this
  exact this
theorem cnt_put (o : Int) (T : List ByteArray) : cntOld (putL o T) = (if o = 1 ∨ o = 2 then T.length else 0) ∧ cntNew (putL o T) = (if o = 1 ∨ o = 3 then T.length else 0) := by
  unfold cntOld cntNew putL
  induction T with
  | nil => simp
  | cons t T ih =>
    obtain ⟨i1, i2⟩ := ih
    rw [List.map_cons, List.countP_cons, List.countP_cons, i1, i2]
    unfold isOld isNew
    constructor
    · by_cases h : o = 1 ∨ o = 2
      · rw [if_pos h, if_pos h, if_pos (by simpa using h)]; rfl
      · rw [if_neg h, if_neg h, if_neg (by simpa using h)]
    · by_cases h : o = 1 ∨ o = 3
      · rw [if_pos h, if_pos h, if_pos (by simpa using h)]; rfl
      · rw [if_neg h, if_neg h, if_neg (by simpa using h)]
theorem old1 (T : List ByteArray) : cntOld (putL 1 T) = T.length := by rw [(cnt_put 1 T).1, if_pos (by simp)]
theorem old2 (T : List ByteArray) : cntOld (putL 2 T) = T.length := by rw [(cnt_put 2 T).1, if_pos (by simp)]
theorem old3 (T : List ByteArray) : cntOld (putL 3 T) = 0 := by rw [(cnt_put 3 T).1, if_neg (by decide)]
theorem new1 (T : List ByteArray) : cntNew (putL 1 T) = T.length := by rw [(cnt_put 1 T).2, if_pos (by simp)]
theorem new2 (T : List ByteArray) : cntNew (putL 2 T) = 0 := by rw [(cnt_put 2 T).2, if_neg (by decide)]
theorem new3 (T : List ByteArray) : cntNew (putL 3 T) = T.length := by rw [(cnt_put 3 T).2, if_pos (by simp)]
theorem cntOld_app (x y : List Row) : cntOld (x ++ y) = cntOld x + cntOld y := List.countP_append
theorem cntNew_app (x y : List Row) : cntNew (x ++ y) = cntNew x + cntNew y := List.countP_append
theorem rows_cnt (A B : List ByteArray) (e : Int) : ∀ (G : List Chg) (a b : Int), okG (A.length : Int) (B.length : Int) e G a b → 0 ≤ a → 0 ≤ b →
    (cntOld (rowsG A B a G e) : Int) = e - a ∧ (cntNew (rowsG A B a G e) : Int) = dM G + (e - a)
  | [], a, b, h, ha, hb => by
    obtain ⟨h1, h2, h3⟩ := h
    have hl := cut_length A a e ha h1 h2
    rw [rowsG, old1, new1, dM]
    omega
  | c :: t, a, b, h, ha, hb => by
    obtain ⟨⟨q1, q2, q3, q4, q5, q6⟩, h2⟩ := h
    have hl1 := cut_length A a c.f0 ha q1 (by omega)
    have hl2 := cut_length A c.f0 (c.f0 + c.f1) (by omega) (by omega) q3
    have hl3 := cut_length B c.f2 (c.f2 + c.f3) (by omega) (by omega) q6
    obtain ⟨i1, i2⟩ := rows_cnt A B e t _ _ h2 (by omega) (by omega)
    rw [rowsG, cntOld_app, cntOld_app, cntOld_app, cntNew_app, cntNew_app, cntNew_app, old1, old2, old3, new1, new2, new3, dM]
    omega
end Go.Proofs.YtecjoofjiockkaaDoor.Pure
namespace Go.Proofs.YtecjoofjiockkaaDoor.Pure
open Go.RowKit Go.Proofs.YtecjoofjiockkaaDoor.Pp Go.Proofs.YtecjoofjiockkaaDoor.Ext Go.Proofs.YtecjoofjiockkaaDoorW.PrintWords Go.Proofs.YtecjoofjiockkaaDoorW.PrintLast Go.Proofs.YtecjoofjiockkaaDoorW.PrintMore
set_option linter.unusedVariables false
set_option linter.unusedSimpArgs false
abbrev HunkT := Int × Int × Int × Int × ByteArray × List Row
def hunkR (st e s2 M : Int) (hd : ByteArray) (R : List Row) : HunkT := ((if e - st > 0 then st + 1 else st), e - st, (if M > 0 then s2 + 1 else s2), M, hd, R)
theorem len_cut (T : List ByteArray) (hT : T.length ≤ 4194304) (a b : Int) : (cut T a b).length ≤ 5000000 := by
  unfold cut; rw [List.length_drop, List.length_take]; omega
theorem len_cut_int (T : List ByteArray) (a b : Int) (ha : 0 ≤ a) (hab : a ≤ b) (hb : b ≤ (T.length : Int)) (x : List Row) (o : Int) : ((x ++ putL o (cut T a b)).length : Int) = (x.length : Int) + (b - a) := by
  rw [List.length_append, putL_length]; have := cut_length T a b ha hab hb; omega
theorem p_last (A : List ByteArray) (hA : A.length ≤ 4194304) (st e a s2 M : Int) (hst : 0 ≤ st ∧ st ≤ e) (hs2 : -1000000000 ≤ s2 ∧ s2 ≤ 1000000000) (hM : -5000000 ≤ M ∧ M ≤ 5000000) (he : e ≤ (A.length : Int)) :
    wrap64 (e - st) = e - st ∧ wrap64 (M + (e - st)) = M + (e - st) ∧ wrap64 (st + 1) = st + 1 ∧ wrap64 (s2 + 1) = s2 + 1 :=
  ⟨w64' (by omega) (by omega), w64' (by omega) (by omega), w64' (by omega) (by omega), w64' (by omega) (by omega)⟩
theorem p_hunk_at (A B : List ByteArray) (hA : A.length ≤ 4194304) (hB : B.length ≤ 4194304) (st e : Int) (hst : 0 ≤ st ∧ st ≤ e) (G : List Chg) (hG : G.length ≤ 4000000000) (s2 : Int) (hs2 : -1000000000 ≤ s2 ∧ s2 ≤ 1000000000) (x1 : Int) (hd : ByteArray) (d : Nat) :
    ∀ (i : Nat) (a b M : Int) (x : List Row), i + d = G.length → okG (A.length : Int) (B.length : Int) e (G.drop i) a b → 0 ≤ a → 0 ≤ b → (-a ≤ M ∧ M ≤ b) → (x.length : Int) ≤ a + b →
    Ev (fun k => hunks_builder_hunk.l0 k st e a G (G.length : Int) (i : Int) A B st x1 s2 M hd x) (hunkR st e s2 (M + dM (G.drop i) + (e - st)) hd (x ++ rowsG A B a (G.drop i) e)) := by
  induction d with
  | zero =>
    intro i a b M x h hok ha hb hM hx
    rw [List.drop_of_length_le (by omega)] at hok ⊢
    obtain ⟨h1, h2, h3⟩ := hok
    obtain ⟨w1, w2, w3, w4⟩ := p_last A hA st e a s2 M hst hs2 (by omega) h2
    have hl := len_cut A hA a e
    have c1 : ¬ (i : Int) < (G.length : Int) := by omega
    refine Ev.step (fun k => by rw [hunks_builder_hunk.l0, if_neg c1, if_pos ha, if_pos h1, if_pos h2]) (Ev.bind (p_put 1 (cut A a e) hl x (by omega)) ?_)
    rw [rowsG, dM, show M + 0 + (e - st) = M + (e - st) by omega]
    refine Ev.same (fun k => ?_) (Ev.pure _)
    rw [w1, w2, w3, w4]
    unfold hunkR
    by_cases c2 : e - st > 0
    · by_cases c3 : M + (e - st) > 0
      · simp only [if_pos c2, if_pos c3]
      · simp only [if_pos c2, if_neg c3]
    · by_cases c3 : M + (e - st) > 0
      · simp only [if_neg c2, if_pos c3]
      · simp only [if_neg c2, if_neg c3]
  | succ d ih =>
    intro i a b M x h hok ha hb hM hx
    have hi : i < G.length := by omega
    obtain ⟨c, hc⟩ : ∃ c, c = rd_T53 G (i : Int) := ⟨_, rfl⟩
    have hdr : G.drop i = c :: G.drop (i + 1) := by rw [hc]; exact drop53 G i hi
    rw [hdr] at hok ⊢
    obtain ⟨⟨q1, q2, q3, q4, q5, q6⟩, h2⟩ := hok
    have c1 : (i : Int) < (G.length : Int) := by omega
    have c0 : 0 ≤ (i : Int) := by omega
    have w1 : wrap64 ((i : Int) + 1) = ((i + 1 : Nat) : Int) := w_add i 1 (by omega)
    have w2 : wrap64 (c.f0 + c.f1) = c.f0 + c.f1 := w64' (by omega) (by omega)
    have w3 : wrap64 (c.f2 + c.f3) = c.f2 + c.f3 := w64' (by omega) (by omega)
    have w4 : wrap64 (c.f3 - c.f1) = c.f3 - c.f1 := w64' (by omega) (by omega)
    have w5 : wrap64 (M + (c.f3 - c.f1)) = M + (c.f3 - c.f1) := w64' (by omega) (by omega)
    have k1 := len_cut_int A a c.f0 ha q1 (by omega) x 1
    have k2 := len_cut_int A c.f0 (c.f0 + c.f1) (by omega) (by omega) q3 (x ++ putL 1 (cut A a c.f0)) 2
    have k3 := len_cut_int B c.f2 (c.f2 + c.f3) (by omega) (by omega) q6 ((x ++ putL 1 (cut A a c.f0)) ++ putL 2 (cut A c.f0 (c.f0 + c.f1))) 3
    have l1 := len_cut A hA a c.f0
    have l2 := len_cut A hA c.f0 (c.f0 + c.f1)
    have l3 := len_cut B hB c.f2 (c.f2 + c.f3)
    have h9 := ih (i + 1) (c.f0 + c.f1) (c.f2 + c.f3) (M + (c.f3 - c.f1)) (((x ++ putL 1 (cut A a c.f0)) ++ putL 2 (cut A c.f0 (c.f0 + c.f1))) ++ putL 3 (cut B c.f2 (c.f2 + c.f3))) (by omega) h2 (by omega) (by omega) (by omega) (by omega)
    have e9 : hunkR st e s2 (M + dM (c :: G.drop (i + 1)) + (e - st)) hd (x ++ rowsG A B a (c :: G.drop (i + 1)) e) = hunkR st e s2 (M + (c.f3 - c.f1) + dM (G.drop (i + 1)) + (e - st)) hd ((((x ++ putL 1 (cut A a c.f0)) ++ putL 2 (cut A c.f0 (c.f0 + c.f1))) ++ putL 3 (cut B c.f2 (c.f2 + c.f3))) ++ rowsG A B (c.f0 + c.f1) (G.drop (i + 1)) e) := by
      rw [dM, rowsG, List.append_assoc, List.append_assoc, List.append_assoc, show M + (c.f3 - c.f1 + dM (G.drop (i + 1))) + (e - st) = M + (c.f3 - c.f1) + dM (G.drop (i + 1)) + (e - st) by omega]
    rw [e9]
    have b1 : c.f0 ≤ (A.length : Int) := by omega
    have b2 : 0 ≤ c.f0 := by omega
    have b3 : c.f0 ≤ c.f0 + c.f1 := by omega
    have b4 : 0 ≤ c.f2 := by omega
    have b5 : c.f2 ≤ c.f2 + c.f3 := by omega
    refine Ev.step (fun k => by rw [hunks_builder_hunk.l0, if_pos c1, if_pos c0, if_pos c1, ← hc, if_pos ha, if_pos q1, if_pos b1, w1, w2, w3, w4, w5]) (Ev.bind (p_put 1 (cut A a c.f0) l1 x (by omega)) ?_)
    refine Ev.same (fun k => by rw [if_pos b2, if_pos b3, if_pos q3]) (Ev.bind (p_put 2 (cut A c.f0 (c.f0 + c.f1)) l2 _ (by omega)) ?_)
    exact Ev.same (fun k => by rw [if_pos b4, if_pos b5, if_pos q6]) (Ev.bind (p_put 3 (cut B c.f2 (c.f2 + c.f3)) l3 _ (by omega)) h9)
end Go.Proofs.YtecjoofjiockkaaDoor.Pure
namespace Go.Proofs.YtecjoofjiockkaaDoor.Pure
open Go.RowKit Go.Proofs.YtecjoofjiockkaaDoor.Pp Go.Proofs.YtecjoofjiockkaaDoor.Ext Go.Proofs.YtecjoofjiockkaaDoorW.PrintWords Go.Proofs.YtecjoofjiockkaaDoorW.PrintLast Go.Proofs.YtecjoofjiockkaaDoorW.PrintMore
set_option linter.unusedVariables false
set_option linter.unusedSimpArgs false
def oneR (st ns : Int) (R : List Row) : HunkT := ((if (cntOld R : Int) > 0 then st + 1 else st), (cntOld R : Int), (if (cntNew R : Int) > 0 then ns + 1 else ns), (cntNew R : Int), (⟨#[]⟩ : ByteArray), R)
def lastE : List Chg → Int → Int
  | [], z => z
  | c :: t, _ => lastE t (c.f0 + c.f1)
theorem lastE_rd : ∀ (G : List Chg) (z : Int), 0 < G.length → lastE G z = (rd_T53 G ((G.length - 1 : Nat) : Int)).f0 + (rd_T53 G ((G.length - 1 : Nat) : Int)).f1
  | [], z, h => absurd h (by simp)
  | [c], z, h => rfl
  | c :: c' :: t, z, h => by
    have := lastE_rd (c' :: t) (c.f0 + c.f1) (by simp)
    rw [lastE, this]
    show _ = ((c :: c' :: t).getD (((c :: c' :: t).length - 1 : Nat) : Int).toNat _).f0 + ((c :: c' :: t).getD (((c :: c' :: t).length - 1 : Nat) : Int).toNat _).f1
    show ((c' :: t).getD (((c' :: t).length - 1 : Nat) : Int).toNat _).f0 + ((c' :: t).getD (((c' :: t).length - 1 : Nat) : Int).toNat _).f1 = _
    rw [Int.toNat_natCast, Int.toNat_natCast, show (c :: c' :: t).length - 1 = ((c' :: t).length - 1) + 1 by simp, List.getD_cons_succ]
def okV (n m : Int) : List Chg → Int → Int → Prop
  | [], a, b => a ≤ n ∧ b ≤ m
  | c :: t, a, b => okC n m a b c ∧ okV n m t (c.f0 + c.f1) (c.f2 + c.f3)
theorem okV_of (n m : Int) : ∀ (s : List Chg) (a b : Int), validP n m s a b → a ≤ n → b ≤ m → okV n m s a b
  | [], a, b, h, h1, h2 => ⟨h1, h2⟩
  | c :: t, a, b, h, h1, h2 => by
    obtain ⟨hc, ht⟩ := h
    refine ⟨hc, okV_of n m t _ _ ht ?_ ?_⟩ <;> (obtain ⟨q1, q2, q3, q4, q5, q6, q7, q8, q9, q10⟩ := hc; omega)
theorem okV_take (n m : Int) : ∀ (s : List Chg) (j : Nat) (a b : Int), okV n m s a b → a ≤ n → b ≤ m → okV n m (s.take j) a b
  | [], j, a, b, h, h1, h2 => by rw [List.take_nil]; exact h
  | c :: t, 0, a, b, h, h1, h2 => ⟨h1, h2⟩
  | c :: t, j + 1, a, b, h, h1, h2 => by
    obtain ⟨hc, ht⟩ := h
    rw [List.take_succ_cons]
    refine ⟨hc, okV_take n m t j _ _ ht ?_ ?_⟩ <;> (obtain ⟨q1, q2, q3, q4, q5, q6, q7, q8, q9, q10⟩ := hc; omega)
theorem okV_drop (n m : Int) : ∀ (s : List Chg) (i : Nat) (a b : Int), okV n m s a b → 0 ≤ a → 0 ≤ b → ∃ a' b', 0 ≤ a' ∧ 0 ≤ b' ∧ okV n m (s.drop i) a' b'
  | s, 0, a, b, h, h1, h2 => ⟨a, b, h1, h2, h⟩
  | [], i + 1, a, b, h, h1, h2 => ⟨a, b, h1, h2, h⟩
  | c :: t, i + 1, a, b, h, h1, h2 => by
    obtain ⟨hc, ht⟩ := h
    rw [List.drop_succ_cons]
    obtain ⟨q1, q2, q3, q4, q5, q6, q7, q8, q9, q10⟩ := hc
    exact okV_drop n m t i _ _ ht (by omega) (by omega)
theorem okV_okG (n m e : Int) (he : e ≤ n) : ∀ (t : List Chg) (a b a0 b0 : Int), okV n m t a b → a0 ≤ a → b0 ≤ b → lastE t a0 ≤ e → (t = [] → a0 ≤ e) → okG n m e t a0 b0
  | [], a, b, a0, b0, h, h1, h2, h3, h4 => by
    obtain ⟨p1, p2⟩ := h
    exact ⟨h3, he, by omega⟩
  | c :: t, a, b, a0, b0, h, h1, h2, h3, h4 => by
    obtain ⟨⟨q1, q2, q3, q4, q5, q6, q7, q8, q9, q10⟩, ht⟩ := h
    refine ⟨⟨by omega, q1, by omega, by omega, q2, by omega⟩, okV_okG n m e he t _ _ _ _ ht (Int.le_refl _) (Int.le_refl _) h3 (fun hn => ?_)⟩
    subst hn
    exact h3
theorem lastE_le (n m : Int) : ∀ (t : List Chg) (a b z : Int), okV n m t a b → z ≤ n → lastE t z ≤ n
  | [], a, b, z, h, hz => hz
  | c :: t, a, b, z, h, hz => by
    obtain ⟨⟨q1, q2, q3, q4, q5, q6, q7, q8, q9, q10⟩, ht⟩ := h
    exact lastE_le n m t _ _ _ ht (by omega)
theorem lastE_ge (n m : Int) : ∀ (t : List Chg) (a b z : Int), okV n m t a b → z ≤ a → z ≤ lastE t z
  | [], a, b, z, h, hz => Int.le_refl _
  | c :: t, a, b, z, h, hz => by
    obtain ⟨⟨q1, q2, q3, q4, q5, q6, q7, q8, q9, q10⟩, ht⟩ := h
    have := lastE_ge n m t _ _ (c.f0 + c.f1) ht (Int.le_refl _)
    rw [lastE]
    omega
end Go.Proofs.YtecjoofjiockkaaDoor.Pure
namespace Go.Proofs.YtecjoofjiockkaaDoor.Pure
open Go.RowKit Go.Proofs.YtecjoofjiockkaaDoor.Pp Go.Proofs.YtecjoofjiockkaaDoor.Ext Go.Proofs.YtecjoofjiockkaaDoorW.PrintWords Go.Proofs.YtecjoofjiockkaaDoorW.PrintLast Go.Proofs.YtecjoofjiockkaaDoorW.PrintMore
set_option linter.unusedVariables false
set_option linter.unusedSimpArgs false
def oldT (l : List Row) : List ByteArray := (l.filter isOld).map (·.f1)
def newT (l : List Row) : List ByteArray := (l.filter isNew).map (·.f1)
theorem newT_length (l : List Row) : (newT l).length = cntNew l := by unfold newT cntNew; rw [List.length_map, List.countP_eq_length_filter]
theorem oldT_cons (r : Row) (t : List Row) : oldT (r :: t) = (if isOld r = true then [r.f1] else []) ++ oldT t := by
  unfold oldT
  rw [List.filter_cons]
  split <;> simp
theorem newT_cons (r : Row) (t : List Row) : newT (r :: t) = (if isNew r = true then [r.f1] else []) ++ newT t := by
  unfold newT
  rw [List.filter_cons]
  split <;> simp
theorem sides_loop (l : List Row) (hl : l.length ≤ 1000000000) (d : Nat) : ∀ (i : Nat) (x y : List ByteArray), i + d = l.length → x.length ≤ i → y.length ≤ i →
    Ev (fun k => hunks_Sides.l0 k x y l (l.length : Int) (i : Int)) (x ++ oldT (l.drop i), y ++ newT (l.drop i)) := by
  induction d with
  | zero =>
    intro i x y h _ _
    rw [List.drop_of_length_le (by omega)]
    exact Ev.step (f := fun _ => some (x, y)) (fun k => by rw [hunks_Sides.l0, if_neg (by omega)]) (by simpa [oldT, newT] using Ev.pure _)
  | succ d ih =>
    intro i x y h hx hy
    have hi : i < l.length := by omega
    have w1 : wrap64 ((i : Int) + 1) = ((i + 1 : Nat) : Int) := w_add i 1 (by omega)
    have hrd := rd_row l i
    rw [drop_by l z56 i hi]
    generalize l.getD i z56 = r at hrd ⊢
    rw [oldT_cons, newT_cons]
    rcases kinds r with ⟨hk, h1, h2⟩ | ⟨hk, h1, h2⟩ | ⟨hk, h1, h2⟩ | ⟨⟨hk1, hk2, hk3⟩, h1, h2⟩
    · have := ih (i + 1) (x ++ [r.f1]) (y ++ [r.f1]) (by omega) (by simp; omega) (by simp; omega)
      rw [h1, h2, if_pos rfl, ← List.append_assoc, ← List.append_assoc]
      exact Ev.step (fun k => by rw [hunks_Sides.l0, if_pos (by omega), if_pos (by omega), if_pos (by omega), hrd, if_pos hk]) (Ev.step (fun k => by rw [hunks_Sides.j1, if_pos rfl, if_pos (by omega), Option.bind_some, if_pos hk, if_pos (by omega), w1]) this)
    · have := ih (i + 1) (x ++ [r.f1]) y (by omega) (by simp; omega) (by omega)
      have hb : (r.f0 == 2) = true := by simp [hk]
      rw [h1, h2, if_pos rfl, if_neg (by simp), List.nil_append, ← List.append_assoc]
      exact Ev.step (fun k => by rw [hunks_Sides.l0, if_pos (by omega), if_pos (by omega), if_pos (by omega), hrd, if_neg (by omega), hb]) (Ev.step (fun k => by rw [hunks_Sides.j1, if_pos rfl, if_pos (by omega), Option.bind_some, if_neg (by omega), if_neg (by omega), w1]) this)
    · have := ih (i + 1) x (y ++ [r.f1]) (by omega) (by omega) (by simp; omega)
      have hb : (r.f0 == 2) = false := by simp [hk]
      rw [h1, h2, if_pos rfl, if_neg (by simp), List.nil_append, ← List.append_assoc]
      exact Ev.step (fun k => by rw [hunks_Sides.l0, if_pos (by omega), if_pos (by omega), if_pos (by omega), hrd, if_neg (by omega), hb]) (Ev.step (fun k => by rw [hunks_Sides.j1, if_neg (by simp), if_neg (by omega), if_pos hk, if_pos (by omega), w1]) this)
    · have := ih (i + 1) x y (by omega) (by omega) (by omega)
      have hb : (r.f0 == 2) = false := by simp [hk2]
      rw [h1, h2, if_neg (by simp), List.nil_append, List.nil_append]
      exact Ev.step (fun k => by rw [hunks_Sides.l0, if_pos (by omega), if_pos (by omega), if_pos (by omega), hrd, if_neg hk1, hb]) (Ev.step (fun k => by rw [hunks_Sides.j1, if_neg (by simp), if_neg hk1, if_neg hk3, w1]) this)
theorem sides_at (a0 a1 a2 a3 : Int) (a4 : ByteArray) (l : List Row) (hl : l.length ≤ 1000000000) : Ev (fun k => hunks_Sides.f k a0 a1 a2 a3 a4 l) (oldT l, newT l) := by
  have := sides_loop l hl l.length 0 [] [] (by omega) (by simp) (by simp)
  rw [List.drop_zero] at this
  exact this
def stIf (a : Int) (n : Nat) : Int := if 0 < n then wrap64 (a + 1) else a
end Go.Proofs.YtecjoofjiockkaaDoor.Pure
namespace Go.Proofs.YtecjoofjiockkaaDoor.Pure
open Go.RowKit Go.Proofs.YtecjoofjiockkaaDoor.Pp Go.Proofs.YtecjoofjiockkaaDoor.Ext Go.Proofs.YtecjoofjiockkaaDoorW.PrintWords Go.Proofs.YtecjoofjiockkaaDoorW.PrintLast Go.Proofs.YtecjoofjiockkaaDoorW.PrintMore
set_option linter.unusedVariables false
set_option linter.unusedSimpArgs false
structure Pc where
  st : Int
  G : List Chg
  e : Int
def gr (c n : Int) : Int → List Chg → Int → List Chg → List Pc
  | st, G, last, [] => [⟨st, G, if last + c < n then last + c else n⟩]
  | st, G, last, x :: t => if x.f0 - last ≤ 2 * c then gr c n st (G ++ [x]) (x.f0 + x.f1) t else ⟨st, G, last + c⟩ :: gr c n (x.f0 - c) [x] (x.f0 + x.f1) t
def grs (c s n : Int) : List Chg → List Pc
  | [] => []
  | x :: t => gr c n (if x.f0 - c < s then s else x.f0 - c) [x] (x.f0 + x.f1) t
theorem cut_get? (T : List ByteArray) (a b : Int) (i : Nat) : (cut T a b)[i]? = if a.toNat + i < b.toNat then T[a.toNat + i]? else none := by
  unfold cut
  rw [List.getElem?_drop, List.getElem?_take]
theorem cut_app (T : List ByteArray) (a b c : Int) (ha : 0 ≤ a) (hab : a ≤ b) (hbc : b ≤ c) (hc : c ≤ (T.length : Int)) : cut T a b ++ cut T b c = cut T a c := by
  have h1 := cut_length T a b ha hab (by omega)
  apply List.ext_getElem?
  intro i
  rw [List.getElem?_append, cut_get? T a c]
  by_cases h : i < (cut T a b).length
  · rw [if_pos h, cut_get?, if_pos (by omega), if_pos (by omega)]
  · rw [if_neg h, cut_get?]
    by_cases h2 : a.toNat + i < c.toNat
    · rw [if_pos (by omega), if_pos h2]
      congr 1
      omega
    · rw [if_neg (by omega), if_neg h2]
def chgR (A B : List ByteArray) (x : Chg) : List Row := putL 2 (cut A x.f0 (x.f0 + x.f1)) ++ putL 3 (cut B x.f2 (x.f2 + x.f3))
theorem rowsG_cons (A B : List ByteArray) (a e : Int) (x : Chg) (t : List Chg) : rowsG A B a (x :: t) e = putL 1 (cut A a x.f0) ++ (chgR A B x ++ rowsG A B (x.f0 + x.f1) t e) := by
  rw [rowsG]; unfold chgR; rw [List.append_assoc]
def lastB : List Chg → Int → Int
  | [], z => z
  | c :: t, _ => lastB t (c.f2 + c.f3)
theorem lastE_app (x : Chg) : ∀ (G : List Chg) (z : Int), lastE (G ++ [x]) z = x.f0 + x.f1
  | [], z => rfl
  | c :: t, z => lastE_app x t _
theorem lastB_app (x : Chg) : ∀ (G : List Chg) (z : Int), lastB (G ++ [x]) z = x.f2 + x.f3
  | [], z => rfl
  | c :: t, z => lastB_app x t _
theorem lastB_dM (n m : Int) : ∀ (G : List Chg) (a b : Int), okV n m G a b → lastB G b - b = dM G + (lastE G a - a)
  | [], a, b, h => by show b - b = 0 + (a - a); omega
  | c :: t, a, b, h => by
    obtain ⟨⟨q1, q2, q3, q4, q5, q6, q7, q8, q9, q10⟩, ht⟩ := h
    have := lastB_dM n m t _ _ ht
    show lastB t (c.f2 + c.f3) - b = ((c.f3 - c.f1) + dM t) + (lastE t (c.f0 + c.f1) - a)
    omega
theorem lastB_le (n m : Int) : ∀ (G : List Chg) (a b : Int), okV n m G a b → b ≤ lastB G b ∧ lastB G b ≤ m ∧ a ≤ lastE G a ∧ lastE G a ≤ n
  | [], a, b, h => ⟨Int.le_refl _, h.2, Int.le_refl _, h.1⟩
  | c :: t, a, b, h => by
    obtain ⟨⟨q1, q2, q3, q4, q5, q6, q7, q8, q9, q10⟩, ht⟩ := h
    have := lastB_le n m t _ _ ht
    show b ≤ lastB t (c.f2 + c.f3) ∧ lastB t (c.f2 + c.f3) ≤ m ∧ a ≤ lastE t (c.f0 + c.f1) ∧ lastE t (c.f0 + c.f1) ≤ n
    omega
theorem okV_snoc (n m : Int) (x : Chg) : ∀ (G : List Chg) (a b : Int), okV n m G a b → okC n m (lastE G a) (lastB G b) x → okV n m (G ++ [x]) a b
  | [], a, b, h, hx => ⟨hx, by obtain ⟨q1, q2, q3, q4, q5, q6, q7, q8, q9, q10⟩ := hx; exact ⟨by omega, by omega⟩⟩
  | c :: t, a, b, h, hx => ⟨h.1, okV_snoc n m x t _ _ h.2 hx⟩
end Go.Proofs.YtecjoofjiockkaaDoor.Pure
namespace Go.Proofs.YtecjoofjiockkaaDoor.Pure
open Go.RowKit Go.Proofs.YtecjoofjiockkaaDoor.Pp Go.Proofs.YtecjoofjiockkaaDoor.Ext Go.Proofs.YtecjoofjiockkaaDoorW.PrintWords Go.Proofs.YtecjoofjiockkaaDoorW.PrintLast Go.Proofs.YtecjoofjiockkaaDoorW.PrintMore
set_option linter.unusedVariables false
set_option linter.unusedSimpArgs false
def nb (r : Row) : Bool := r.f0 == 1
def pcs (hd : ByteArray) (a b : Int) (l : List Row) : Hunk := ⟨stIf a (cntOld l), (cntOld l : Int), stIf b (cntNew l), (cntNew l : Int), hd, l⟩
def nsOf (st : Int) (G : List Chg) : Int := match G with
  | [] => 0
  | x :: _ => x.f2 - (x.f0 - st)
def hk (A B : List ByteArray) (p : Pc) : Hunk := pcs ⟨#[]⟩ p.st (nsOf p.st p.G) (rowsG A B p.st p.G p.e)
theorem put_nb (o : Int) (T : List ByteArray) (ho : o ≠ 1) : ∀ r ∈ putL o T, nb r = false := fun r hr => by
  obtain ⟨t, _, rfl⟩ := List.mem_map.mp hr
  unfold nb; simpa using ho
theorem chg_nb (A B : List ByteArray) (x : Chg) : ∀ r ∈ chgR A B x, nb r = false := fun r hr => by
  unfold chgR at hr
  rcases List.mem_append.mp hr with h | h
  · exact put_nb 2 _ (by decide) r h
  · exact put_nb 3 _ (by decide) r h
theorem chg_len (A B : List ByteArray) (n m a b : Int) (hn : n = (A.length : Int)) (hm : m = (B.length : Int)) (ha : 0 ≤ a) (hb : 0 ≤ b) (x : Chg) (h : okC n m a b x) : chgR A B x ≠ [] := by
  obtain ⟨q1, q2, q3, q4, q5, q6, q7, q8, q9, q10⟩ := h
  subst hn hm
  have l1 := cut_length A x.f0 (x.f0 + x.f1) (by omega) (by omega) (by omega)
  have l2 := cut_length B x.f2 (x.f2 + x.f3) (by omega) (by omega) (by omega)
  intro e
  have := congrArg List.length e
  unfold chgR at this
  rw [List.length_append, putL_length, putL_length, List.length_nil] at this
  omega
theorem ns_snoc (st : Int) (G : List Chg) (hG : G ≠ []) (x : Chg) : nsOf st (G ++ [x]) = nsOf st G := by
  cases G with
  | nil => exact absurd rfl hG
  | cons y t => rfl
end Go.Proofs.YtecjoofjiockkaaDoor.Pure
namespace Go.Proofs.YtecjoofjiockkaaDoor.Pure
open Go.RowKit Go.Proofs.YtecjoofjiockkaaDoor.Pp Go.Proofs.YtecjoofjiockkaaDoor.Ext Go.Proofs.YtecjoofjiockkaaDoorW.PrintWords Go.Proofs.YtecjoofjiockkaaDoorW.PrintLast Go.Proofs.YtecjoofjiockkaaDoorW.PrintMore
set_option linter.unusedVariables false
set_option linter.unusedSimpArgs false
def hunkOf (R : HunkT) : Hunk := ⟨R.1, R.2.1, R.2.2.1, R.2.2.2.1, R.2.2.2.2.1, R.2.2.2.2.2⟩
theorem rd_chg (L : List Chg) (i : Nat) : rd_T53 L (i : Int) = L.getD i z53 := by show L.getD ((i : Int)).toNat _ = _; simp
theorem grp (L : List Chg) (i j : Nat) (hij : i < j) (hj : j ≤ L.length) : ∃ c t, (L.take ((j : Nat) : Int).toNat).drop ((i : Nat) : Int).toNat = c :: t ∧ (c :: t).length ≤ L.length := by
  obtain ⟨g, hg⟩ : ∃ g, g = (L.take ((j : Nat) : Int).toNat).drop ((i : Nat) : Int).toNat := ⟨_, rfl⟩
  have hl : g.length = j - i := by rw [hg, List.length_drop, List.length_take, Int.toNat_natCast, Int.toNat_natCast]; omega
  rw [← hg]
  cases g with
  | nil => simp at hl; omega
  | cons c t => exact ⟨c, t, rfl, by omega⟩
theorem okV_at (n m : Int) : ∀ (s : List Chg) (i : Nat) (a b : Int), okV n m s a b → 0 ≤ a → 0 ≤ b → (h : i < s.length) → 0 ≤ (rd_T53 s (i : Int)).f0 ∧ 0 ≤ (rd_T53 s (i : Int)).f1 ∧ (rd_T53 s (i : Int)).f0 + (rd_T53 s (i : Int)).f1 ≤ n := by
  intro s i a b h ha hb hi
  obtain ⟨a', b', h1, h2, h3⟩ := okV_drop n m s i a b h ha hb
  rw [drop53 s i hi] at h3
  obtain ⟨⟨q1, q2, q3, q4, q5, q6, q7, q8, q9, q10⟩, _⟩ := h3
  exact ⟨by omega, q1, by omega⟩
theorem gap_at (n f0 p0 p1 c : Int) (hn : n ≤ 4194304) (h1 : 0 ≤ f0 ∧ f0 ≤ n) (h2 : 0 ≤ p0 ∧ 0 ≤ p1 ∧ p0 + p1 ≤ n) (hc : 0 ≤ c ∧ c ≤ 2147483647) :
    wrap64 (wrap64 (f0 - p0) - p1) = f0 - (p0 + p1) ∧ wrap64 (f0 - wrap64 (p0 + p1)) = f0 - (p0 + p1) ∧ wrap64 (2 * c) = 2 * c := by
  have w1 : wrap64 (f0 - p0) = f0 - p0 := w64' (by omega) (by omega)
  have w2 : wrap64 (p0 + p1) = p0 + p1 := w64' (by omega) (by omega)
  rw [w1, w2]
  refine ⟨?_, w64' (by omega) (by omega), w64' (by omega) (by omega)⟩
  rw [w64' (by omega) (by omega)]
  omega
structure Fine (l : List Hunk) (u : Nat) : Prop where
  len : l.length ≤ u
  rows : ∀ h ∈ l, h.f5.length ≤ 4000000000
theorem Fine.snoc {l : List Hunk} {u : Nat} (h : Fine l u) {R : HunkT} (hR : R.2.2.2.2.2.length ≤ 4000000000) : Fine (l ++ [hunkOf R]) (u + 1) := by
  refine ⟨by have := h.len; simp; omega, fun x hx => ?_⟩
  rcases List.mem_append.mp hx with hx | hx
  · exact h.rows x hx
  · obtain rfl : x = hunkOf R := by simpa using hx
    exact hR
end Go.Proofs.YtecjoofjiockkaaDoor.Pure
namespace Go.Proofs.YtecjoofjiockkaaDoor.Pure
open Go.RowKit Go.Proofs.YtecjoofjiockkaaDoor.Pp Go.Proofs.YtecjoofjiockkaaDoor.Ext Go.Proofs.YtecjoofjiockkaaDoorW.PrintWords Go.Proofs.YtecjoofjiockkaaDoorW.PrintLast Go.Proofs.YtecjoofjiockkaaDoorW.PrintMore
set_option linter.unusedVariables false
set_option linter.unusedSimpArgs false
theorem txt_size (A : List ByteArray) (hs : ∀ s ∈ A, s.size ≤ 4000000000) (z : Int) (h0 : 0 ≤ z) (h1 : z < (A.length : Int)) : (rdOf ByteArray.empty A z).size ≤ 4000000000 := by
  obtain ⟨u, rfl⟩ := Int.eq_ofNat_of_zero_le h0
  rw [rd_nat]
  have hu : u < A.length := by omega
  refine hs _ ?_
  rw [List.getD_eq_getElem?_getD, List.getElem?_eq_getElem hu]
  exact List.getElem_mem hu
end Go.Proofs.YtecjoofjiockkaaDoor.Pure
namespace Go.Proofs.YtecjoofjiockkaaDoor.Pure
open Go.RowKit Go.Proofs.YtecjoofjiockkaaDoor.Pp Go.Proofs.YtecjoofjiockkaaDoor.Ext Go.Proofs.YtecjoofjiockkaaDoorW.PrintWords Go.Proofs.YtecjoofjiockkaaDoorW.PrintLast Go.Proofs.YtecjoofjiockkaaDoorW.PrintMore
set_option linter.unusedVariables false
set_option linter.unusedSimpArgs false
def stOf (c : Int) (G : List Chg) : Int := match G with
  | [] => 0
  | x :: _ => if x.f0 - c < 0 then 0 else x.f0 - c
def eOf (c n le : Int) : Int := if le + c < n then le + c else n
theorem ends_is (n f0 le ctx : Int) (h0 : 0 ≤ ctx ∧ ctx ≤ 2147483647) (hf : 0 ≤ f0 ∧ f0 ≤ n) (hl : f0 ≤ le ∧ le ≤ n) (hn : n ≤ 4194304) :
    mx (wrap64 (f0 - ctx)) 0 = (if f0 - ctx < 0 then 0 else f0 - ctx) ∧ wrap64 (n - le) = n - le ∧ wrap64 (le + ctx) = le + ctx ∧ (ctx < n - le → le + ctx = eOf ctx n le) ∧ (¬ ctx < n - le → n = eOf ctx n le) ∧
      0 ≤ (if f0 - ctx < 0 then 0 else f0 - ctx) ∧ (if f0 - ctx < 0 then 0 else f0 - ctx) ≤ f0 ∧ le ≤ eOf ctx n le ∧ eOf ctx n le ≤ n := by
  have w1 : wrap64 (f0 - ctx) = f0 - ctx := w64' (by omega) (by omega)
  unfold eOf
  refine ⟨?_, w64' (by omega) (by omega), w64' (by omega) (by omega), fun h => by rw [if_pos (by omega)], fun h => by rw [if_neg (by omega)], ?_, ?_, ?_, ?_⟩
  · rw [w1]; rfl
  all_goals (split <;> omega)
theorem hunkOf_one (st ns : Int) (R : List Row) (h1 : -1000000000 ≤ st ∧ st ≤ 1000000000) (h2 : -1000000000 ≤ ns ∧ ns ≤ 1000000000) : hunkOf (oneR st ns R) = pcs ⟨#[]⟩ st ns R := by
  unfold hunkOf oneR pcs stIf
  have w1 : wrap64 (st + 1) = st + 1 := w64' (by omega) (by omega)
  have w2 : wrap64 (ns + 1) = ns + 1 := w64' (by omega) (by omega)
  rw [w1, w2]
  by_cases a : 0 < cntOld R <;> by_cases b : 0 < cntNew R <;> simp [a, b]
theorem builder_is (A B : List ByteArray) (hA : A.length ≤ 4194304) (hB : B.length ≤ 4194304) (c : Chg) (t : List Chg) (hlen : (c :: t).length ≤ 4000000000) (a b : Int) (hv : okV (A.length : Int) (B.length : Int) (c :: t) a b) (ha : 0 ≤ a) (hb : 0 ≤ b) (ctx : Int) (h0 : 0 ≤ ctx ∧ ctx ≤ 2147483647) :
    ∃ R : HunkT, Ev (fun k => hunks_builder_hunk.f k A B (c :: t) ctx) R ∧ hunkOf R = hk A B ⟨stOf ctx (c :: t), c :: t, eOf ctx (A.length : Int) (lastE (c :: t) 0)⟩ := by
  obtain ⟨⟨q1, q2, q3, q4, q5, q6, q7, q8, q9, q10⟩, ht⟩ := hv
  have g1 := lastE_ge _ _ t _ _ (c.f0 + c.f1) ht (Int.le_refl _)
  have g2 := lastE_le _ _ t _ _ (c.f0 + c.f1) ht (by omega)
  have hle := lastE_rd (c :: t) 0 (by simp)
  obtain ⟨le, hled⟩ : ∃ le, le = lastE t (c.f0 + c.f1) := ⟨_, rfl⟩
  have hle2 : (rd_T53 (c :: t) (((c :: t).length - 1 : Nat) : Int)).f0 + (rd_T53 (c :: t) (((c :: t).length - 1 : Nat) : Int)).f1 = le := by rw [← hle, hled]; rfl
  have hle3 : lastE (c :: t) 0 = le := hled.symm
  rw [← hled] at g1 g2
  rw [hle3]
  obtain ⟨e1, e2, e3, e4, e5, e7, e8, e9, e10⟩ := ends_is (A.length : Int) c.f0 le ctx h0 (by omega) (by omega) (by omega)
  show ∃ R : HunkT, _ ∧ hunkOf R = pcs _ (if c.f0 - ctx < 0 then 0 else c.f0 - ctx) (c.f2 - (c.f0 - (if c.f0 - ctx < 0 then 0 else c.f0 - ctx))) (rowsG A B (if c.f0 - ctx < 0 then 0 else c.f0 - ctx) (c :: t) (eOf ctx (A.length : Int) le))
  generalize (if c.f0 - ctx < 0 then 0 else c.f0 - ctx) = st at e1 e7 e8 ⊢
  generalize eOf ctx (A.length : Int) le = e at e4 e5 e9 e10 ⊢
  have hok : okG (A.length : Int) (B.length : Int) e (c :: t) st 0 := ⟨⟨e8, q1, by omega, by omega, q2, by omega⟩, okV_okG _ _ e e10 t _ _ _ _ ht (Int.le_refl _) (Int.le_refl _) (by rw [← hled]; exact e9) (fun hn => by subst hn; rw [hled] at e9; exact e9)⟩
  have n1 : wrap64 (c.f0 - st) = c.f0 - st := w64' (by omega) (by omega)
  have n2 : wrap64 (c.f2 - (c.f0 - st)) = c.f2 - (c.f0 - st) := w64' (by omega) (by omega)
  have hP := p_hunk_at A B hA hB st e ⟨e7, by omega⟩ (c :: t) hlen (c.f2 - (c.f0 - st)) (by omega) 0 (⟨#[]⟩ : ByteArray) (c :: t).length 0 st 0 0 [] (by omega) (by rw [List.drop_zero]; exact hok) e7 (by omega) (by omega) (by simp; omega)
  rw [List.drop_zero, List.nil_append] at hP
  obtain ⟨r1, r2⟩ := rows_cnt A B e (c :: t) st 0 hok e7 (by omega)
  have he : hunkR st e (c.f2 - (c.f0 - st)) (0 + dM (c :: t) + (e - st)) (⟨#[]⟩ : ByteArray) (rowsG A B st (c :: t) e) = oneR st (c.f2 - (c.f0 - st)) (rowsG A B st (c :: t) e) := by
    unfold hunkR oneR
    rw [r1, r2, show 0 + dM (c :: t) + (e - st) = dM (c :: t) + (e - st) by omega]
  have l0 : (0 : Int) < ((c :: t).length : Int) := by simp
  have l1 : wrap64 (((c :: t).length : Int) - 1) = (((c :: t).length - 1 : Nat) : Int) := by rw [w64' (by omega) (by omega)]; omega
  have l2 : (0 : Int) ≤ (((c :: t).length - 1 : Nat) : Int) := by omega
  have l3 : (((c :: t).length - 1 : Nat) : Int) < ((c :: t).length : Int) := by omega
  have l4 : wrap64 le = le := w64' (by omega) (by omega)
  refine ⟨oneR st (c.f2 - (c.f0 - st)) (rowsG A B st (c :: t) e), ?_, hunkOf_one _ _ _ (by omega) (by omega)⟩
  rw [he] at hP
  have hJ : Ev (fun k => hunks_builder_hunk.j0 k (c :: t) st e A B c.f0 c.f1 c.f2 c.f3) (oneR st (c.f2 - (c.f0 - st)) (rowsG A B st (c :: t) e)) :=
    Ev.step (fun k => by rw [hunks_builder_hunk.j0, n1, n2]; rfl) hP
  refine Ev.same (fun k => ?_) hJ
  unfold hunks_builder_hunk.f
  rw [if_pos l0, l1, if_pos l2, if_pos l3, hle2, l4, e2]
  show (if ctx < (A.length : Int) - le then hunks_builder_hunk.j0 k (c :: t) (mx (wrap64 (c.f0 - ctx)) 0) (wrap64 (le + ctx)) A B c.f0 c.f1 c.f2 c.f3 else hunks_builder_hunk.j0 k (c :: t) (mx (wrap64 (c.f0 - ctx)) 0) (A.length : Int) A B c.f0 c.f1 c.f2 c.f3) = _
  by_cases hc : ctx < (A.length : Int) - le
  · rw [if_pos hc, e1, e3, e4 hc]
  · rw [if_neg hc, e1, e5 hc]
theorem mid_snoc (L : List Chg) (i j : Nat) (hij : i ≤ j) (hj : j < L.length) : (L.take (j + 1)).drop i = (L.take j).drop i ++ [rd_T53 L (j : Int)] := by
  rw [List.take_succ_eq_append_getElem hj, List.drop_append_of_le_length (by rw [List.length_take]; omega), rd_chg, List.getD_eq_getElem?_getD, List.getElem?_eq_getElem hj]; rfl
theorem mid_ne (L : List Chg) (i j : Nat) (hij : i < j) (hj : j ≤ L.length) : ∃ c t, (L.take j).drop i = c :: t ∧ (c :: t).length ≤ L.length := by
  have := grp L i j hij hj
  rw [Int.toNat_natCast, Int.toNat_natCast] at this
  exact this
theorem mid_last (L : List Chg) (i j : Nat) (hij : i < j) (hj : j ≤ L.length) : lastE ((L.take j).drop i) 0 = (rd_T53 L ((j - 1 : Nat) : Int)).f0 + (rd_T53 L ((j - 1 : Nat) : Int)).f1 := by
  obtain ⟨u, rfl⟩ : ∃ u, j = u + 1 := ⟨j - 1, by omega⟩
  rw [mid_snoc L i u (by omega) (by omega), lastE_app]; rfl
theorem stOf_snoc (c : Int) (G : List Chg) (hG : G ≠ []) (x : Chg) : stOf c (G ++ [x]) = stOf c G := by
  cases G with
  | nil => exact absurd rfl hG
  | cons y t => rfl
theorem groups_is (A B : List ByteArray) (hA : A.length ≤ 4194304) (hB : B.length ≤ 4194304) (L : List Chg) (hL : L.length ≤ 4000000000) (hv : okV (A.length : Int) (B.length : Int) L 0 0) (ctx : Int) (h0 : 0 ≤ ctx ∧ ctx ≤ 2147483647) (d : Nat) :
    ∀ (i j : Nat) (out : List Hunk), i < j → j + d = L.length → out.length ≤ i →
    Ev (fun k => hunks_Build.l2 k L ctx out (i : Int) (j : Int) A B) (out ++ (gr ctx (A.length : Int) (stOf ctx ((L.take j).drop i)) ((L.take j).drop i) (lastE ((L.take j).drop i) 0) (L.drop j)).map (hk A B), none) := by
  have hone : ∀ i j : Nat, i < j → j ≤ L.length → ∃ R : HunkT, Ev (fun k => hunks_builder_hunk.f k A B ((L.take ((j : Nat) : Int).toNat).drop ((i : Nat) : Int).toNat) ctx) R ∧ hunkOf R = hk A B ⟨stOf ctx ((L.take j).drop i), (L.take j).drop i, eOf ctx (A.length : Int) (lastE ((L.take j).drop i) 0)⟩ := by
    intro i j hij hj
    rw [Int.toNat_natCast, Int.toNat_natCast]
    have hv1 := okV_take _ _ L j 0 0 hv (by omega) (by omega)
    obtain ⟨a, b, ha, hb, hv2⟩ := okV_drop _ _ _ i 0 0 hv1 (Int.le_refl _) (Int.le_refl _)
    obtain ⟨c, t, he, hl⟩ := mid_ne L i j hij hj
    rw [he] at hv2 ⊢
    exact builder_is A B hA hB c t (by omega) a b hv2 ha hb ctx h0
  induction d with
  | zero =>
    intro i j out hij hj hf
    obtain ⟨R, r1, r2⟩ := hone i j hij (by omega)
    have c1 : ¬ (j : Int) < (L.length : Int) := by omega
    have c2 : (0 : Int) ≤ (i : Int) := by omega
    have c3 : (i : Int) ≤ (j : Int) := by omega
    have c4 : (j : Int) ≤ (L.length : Int) := by omega
    have c5 : out.length < 1954687338268 := by omega
    rw [List.drop_of_length_le (show L.length ≤ j by omega), gr, List.map_cons, List.map_nil]
    refine Ev.step (fun k => by rw [hunks_Build.l2, if_neg c1, if_pos c2, if_pos c3, if_pos c4]) (Ev.bind r1 (Ev.same (fun k => if_pos c5) ?_))
    refine Ev.step (f := fun _ => some (out ++ [hunkOf R], none)) (fun k => by rw [hunks_Build.l1, if_neg c1]; rfl) ?_
    rw [r2]
    exact Ev.pure _
  | succ d ih =>
    intro i j out hij hj hf
    have hjl : j < L.length := by omega
    have c1 : (j : Int) < (L.length : Int) := by omega
    have c0 : (0 : Int) ≤ (j : Int) := by omega
    have c2 : (0 : Int) ≤ (i : Int) := by omega
    have c3 : (i : Int) ≤ (j : Int) := by omega
    have c4 : (j : Int) ≤ (L.length : Int) := by omega
    have c5 : out.length < 1954687338268 := by omega
    have w1 : wrap64 ((j : Int) + 1) = ((j + 1 : Nat) : Int) := w_add j 1 (by omega)
    have w2 : wrap64 ((j : Int) - 1) = ((j - 1 : Nat) : Int) := by rw [w64' (by omega) (by omega)]; omega
    have c7 : (0 : Int) ≤ ((j - 1 : Nat) : Int) := by omega
    have c8 : ((j - 1 : Nat) : Int) < (L.length : Int) := by omega
    obtain ⟨x, hx⟩ : ∃ x, x = rd_T53 L (j : Int) := ⟨_, rfl⟩
    obtain ⟨y, hy⟩ : ∃ y, y = rd_T53 L ((j - 1 : Nat) : Int) := ⟨_, rfl⟩
    have hx1 := okV_at _ _ L j 0 0 hv (Int.le_refl _) (Int.le_refl _) hjl
    have hy1 := okV_at _ _ L (j - 1) 0 0 hv (Int.le_refl _) (Int.le_refl _) (by omega)
    have hml := mid_last L i j hij (by omega)
    have hms := mid_snoc L i j (by omega) hjl
    have hms2 := mid_snoc L j j (by omega) hjl
    have hdj := drop53 L j hjl
    have hd0 : (L.take j).drop j = [] := List.drop_of_length_le (by rw [List.length_take]; omega)
    rw [hd0, List.nil_append] at hms2
    obtain ⟨cc, tt, hne, _⟩ := mid_ne L i j hij (by omega)
    have hne2 : (L.take j).drop i ≠ [] := by rw [hne]; simp
    rw [← hx] at hx1 hms hms2 hdj
    rw [← hy] at hy1 hml
    rw [hdj, gr, hml]
    obtain ⟨g1, g2, g3⟩ := gap_at (A.length : Int) x.f0 y.f0 y.f1 ctx (by omega) (by omega) (by omega) h0
    by_cases hg : x.f0 - (y.f0 + y.f1) ≤ 2 * ctx
    · have h2 := ih i (j + 1) out (by omega) (by omega) (by omega)
      rw [hms, stOf_snoc _ _ hne2, lastE_app] at h2
      rw [if_pos hg]
      exact Ev.step (fun k => by rw [hunks_Build.l2, if_pos c1, if_pos c0, w2, if_pos c7, if_pos c8, ← hx, ← hy, g1, g3, if_pos hg, w1]) h2
    · obtain ⟨R, r1, r2⟩ := hone i j hij (by omega)
      have h2 := ih j (j + 1) (out ++ [hunkOf R]) (by omega) (by omega) (by simp; omega)
      have e1 : stOf ctx [x] = x.f0 - ctx := if_neg (by omega)
      have e2 : eOf ctx (A.length : Int) (y.f0 + y.f1) = y.f0 + y.f1 + ctx := if_pos (by omega)
      rw [hml, e2] at r2
      rw [hms2, e1] at h2
      rw [if_neg hg, List.map_cons, ← r2]
      rw [show ∀ z : List Hunk, out ++ hunkOf R :: z = (out ++ [hunkOf R]) ++ z from fun z => by simp]
      refine Ev.step (fun k => by rw [hunks_Build.l2, if_pos c1, if_pos c0, w2, if_pos c7, if_pos c8, ← hx, ← hy, g1, g3, if_neg hg, if_pos c2, if_pos c3, if_pos c4]) (Ev.bind r1 (Ev.same (fun k => if_pos c5) ?_))
      exact Ev.step (fun k => by rw [hunks_Build.l1, if_pos c1, w1]; rfl) h2
theorem stay_is (A B : List ByteArray) (hsA : ∀ s ∈ A, s.size ≤ 4000000000) (hsB : ∀ s ∈ B, s.size ≤ 4000000000) (L : List Chg) (ctx : Int) (res : List Hunk)
    (h2 : Ev (fun k => hunks_Build.l1 k L ctx [] 0 A B) (res, none)) (P : List S37) (hP : P.length ≤ 4000000000) (d : Nat) :
    ∀ (i : Nat) (a b : Int), i + d = P.length → inO (A.length : Int) (B.length : Int) (P.drop i) a b → 0 ≤ a → 0 ≤ b →
    ((∃ p ∈ P.drop i, ¬ whole (rdOf ByteArray.empty A p.f0) = whole (rdOf ByteArray.empty B p.f1)) ∧ ∃ e, Ev (fun k => hunks_Build.l0 k L A B ctx P (P.length : Int) (i : Int)) ([], some e)) ∨
      ((∀ p ∈ P.drop i, whole (rdOf ByteArray.empty A p.f0) = whole (rdOf ByteArray.empty B p.f1)) ∧ Ev (fun k => hunks_Build.l0 k L A B ctx P (P.length : Int) (i : Int)) (res, none)) := by
  induction d with
  | zero =>
    intro i a b h hin ha hb
    have c1 : ¬ (i : Int) < (P.length : Int) := by omega
    refine Or.inr ⟨fun p hp => ?_, Ev.step (fun k => by rw [hunks_Build.l0, if_neg c1]) h2⟩
    rw [List.drop_of_length_le (by omega)] at hp
    cases hp
  | succ d ih =>
    intro i a b h hin ha hb
    have hi : i < P.length := by omega
    obtain ⟨p, hp⟩ : ∃ p, p = rd_T37 P (i : Int) := ⟨_, rfl⟩
    have hdr : P.drop i = p :: P.drop (i + 1) := by rw [hp]; exact drop37 P i hi
    rw [hdr] at hin ⊢
    obtain ⟨q1, q2, q3, q4, q5⟩ := hin
    have c1 : (i : Int) < (P.length : Int) := by omega
    have c0 : (0 : Int) ≤ (i : Int) := by omega
    have w1 : wrap64 ((i : Int) + 1) = ((i + 1 : Nat) : Int) := w_add i 1 (by omega)
    have b1 : 0 ≤ p.f0 := by omega
    have b2 : 0 ≤ p.f1 := by omega
    have s1 := txt_size A hsA p.f0 b1 q3
    have s2 := txt_size B hsB p.f1 b2 q4
    by_cases hw : (whole (rdOf ByteArray.empty A p.f0) != whole (rdOf ByteArray.empty B p.f1)) = true
    · exact Or.inl ⟨⟨p, List.mem_cons_self, by simpa using hw⟩, 61, Ev.step (f := fun _ => some ([], some 61)) (fun k => by rw [hunks_Build.l0, if_pos c1, if_pos c0, if_pos c1, ← hp, if_pos b1, if_pos q3, whole_at _ s1, Option.bind_some, if_pos b2, if_pos q4, whole_at _ s2, Option.bind_some, if_pos hw]) (Ev.pure _)⟩
    · have hstep : ∀ v, Ev (fun k => hunks_Build.l0 k L A B ctx P (P.length : Int) ((i + 1 : Nat) : Int)) v → Ev (fun k => hunks_Build.l0 k L A B ctx P (P.length : Int) (i : Int)) v := fun v g2 =>
        Ev.step (fun k => by rw [hunks_Build.l0, if_pos c1, if_pos c0, if_pos c1, ← hp, if_pos b1, if_pos q3, whole_at _ s1, Option.bind_some, if_pos b2, if_pos q4, whole_at _ s2, Option.bind_some, if_neg hw, w1]) g2
      rcases ih (i + 1) _ _ (by omega) q5 (by omega) (by omega) with ⟨⟨r, r1, r2⟩, e, he⟩ | ⟨h3, h4⟩
      · exact Or.inl ⟨⟨r, List.mem_cons_of_mem _ r1, r2⟩, e, hstep _ he⟩
      · refine Or.inr ⟨fun r hr => ?_, hstep _ h4⟩
        rcases List.mem_cons.mp hr with rfl | hr
        · simpa using hw
        · exact h3 r hr
structure Bt (S : List Chg) (A B : List ByteArray) (L : List Chg) : Prop where
  va : validL A = true
  vb : validL B = true
  la : A.length ≤ 4194304
  lb : B.length ≤ 4194304
  norm : normS S (A.length : Int) (B.length : Int) = (L, none)
  whole : ∀ p ∈ pairsL (A.length : Int) L 0 0, whole (rdOf ByteArray.empty A p.f0) = whole (rdOf ByteArray.empty B p.f1)
theorem build_is (S : List Chg) (A B : List ByteArray) (ctx : Int) (hS : S.length ≤ 3000000000) (hlA : A.length ≤ 4000000000) (hlB : B.length ≤ 4000000000) (hsA : ∀ s ∈ A, s.size ≤ 4000000000) (hsB : ∀ s ∈ B, s.size ≤ 4000000000) :
    ((¬ ∃ L, Bt S A B L ∧ 0 ≤ ctx ∧ ctx ≤ 2147483647) ∧ ∃ e, Ev (fun k => hunks_Build.f k S A B ctx) ([], some e)) ∨
      (∃ L, Bt S A B L ∧ 0 ≤ ctx ∧ ctx ≤ 2147483647 ∧ Ev (fun k => hunks_Build.f k S A B ctx) ((grs ctx 0 (A.length : Int) L).map (hk A B), none)) := by
  by_cases hc : ctx < 0 ∨ ctx > 2147483647
  · refine Or.inl ⟨fun ⟨L, _, h1, h2⟩ => by omega, 1, ?_⟩
    have hj : Ev (fun k => hunks_Build.j0 k S A B ctx true) ([], some 1) := Ev.step (f := fun _ => some ([], some 1)) (fun k => by rw [hunks_Build.j0, if_pos rfl]) (Ev.pure _)
    refine Ev.same (fun k => ?_) hj
    unfold hunks_Build.f
    split
    · rfl
    · rw [decide_eq_true (by omega : ctx > 2147483647)]
  have e1 : ∀ k, hunks_Build.f k S A B ctx = hunks_Build.j0 k S A B ctx false := fun k => by
    unfold hunks_Build.f; rw [if_neg (by omega), decide_eq_false (by omega : ¬ ctx > 2147483647)]
  have hj0 : ∀ (x : List Hunk × Option Int), Ev (fun k => hunks_Build.j1 k S A B ctx (!(validL A && validL B))) x → Ev (fun k => hunks_Build.f k S A B ctx) x := by
    intro x h1
    refine Ev.same e1 (Ev.step (fun k => by rw [hunks_Build.j0, if_neg (by simp)]) (Ev.bind (p_valid A hlA hsA) ?_))
    cases hA : validL A with
    | true => rw [hA, Bool.true_and] at h1; exact Ev.same (fun k => if_pos rfl) (Ev.bind (p_valid B hlB hsB) h1)
    | false => rw [hA, Bool.false_and] at h1; exact Ev.same (fun k => if_neg (by simp)) h1
  cases hvv : (validL A && validL B) with
  | false =>
    rw [hvv] at hj0
    exact Or.inl ⟨fun ⟨L, hb, _⟩ => (by rw [hb.va, hb.vb] at hvv; cases hvv), 3, hj0 _ (Ev.step (f := fun _ => some ([], some 3)) (fun k => by rw [hunks_Build.j1, if_pos (by rfl)]) (Ev.pure _))⟩
  | true =>
    rw [hvv] at hj0
    rw [Bool.and_eq_true] at hvv
    have hn := norm_at S (by omega) (A.length : Int) (B.length : Int) (by omega) (by omega)
    obtain ⟨L, hLd⟩ : ∃ L, L = (normS S (A.length : Int) (B.length : Int)).1 := ⟨_, rfl⟩
    cases he : (normS S (A.length : Int) (B.length : Int)).2 with
    | some e =>
      exact Or.inl ⟨fun ⟨L, hb, _⟩ => (by rw [hb.norm] at he; cases he), e, hj0 _ (Ev.step (fun k => by rw [hunks_Build.j1, if_neg (by simp)]) (Ev.bind hn (Ev.same (fun k => by rw [he]; exact if_neg (by simp)) (Ev.pure _))))⟩
    | none =>
      have hpair : normS S (A.length : Int) (B.length : Int) = (L, none) := by rw [hLd, ← he]
      obtain ⟨h1, h2, h3, h4⟩ := normS_valid hpair
      have hL : L.length ≤ 4000000000 := by omega
      have hok := okV_of _ _ L 0 0 h3 (by omega) (by omega)
      have hpp := pairs_at L hL (A.length : Int) (B.length : Int) (by omega) (by omega) h1 h2 h3
      have hpl := pairsL_length (A.length : Int) (B.length : Int) L 0 0 h3 (by omega)
      have hio := inO_pairs (A.length : Int) (B.length : Int) L 0 0 h3 (by omega) (by omega)
      have hg : Ev (fun k => hunks_Build.l1 k L ctx [] 0 A B) ((grs ctx 0 (A.length : Int) L).map (hk A B), none) := by
        cases hLc : L with
        | nil => exact Ev.step (f := fun _ => some ([], none)) (fun k => by rw [hunks_Build.l1, if_neg (by simp)]) (Ev.pure _)
        | cons x t =>
          rw [hLc] at hL hok
          have g := groups_is A B (by omega) (by omega) (x :: t) hL hok ctx (by omega) t.length 0 1 [] (by omega) (by simp; omega) (by simp)
          have w : wrap64 ((0 : Int) + 1) = 1 := by rw [w64' (by omega) (by omega)]; rfl
          exact Ev.step (fun k => by rw [hunks_Build.l1, if_pos (by simp), w]; rfl) g
      have hj1 : ∀ x, Ev (fun k => hunks_Build.l0 k L A B ctx (pairsL (A.length : Int) L 0 0) ((pairsL (A.length : Int) L 0 0).length : Int) ((0 : Nat) : Int)) x → Ev (fun k => hunks_Build.f k S A B ctx) x := fun x k2 => hj0 x (by
        rw [hpair] at hn
        exact Ev.step (fun k => by rw [hunks_Build.j1, if_neg (by simp)]) (Ev.bind hn (Ev.same (fun k => if_pos rfl) (Ev.bind hpp (Ev.same (fun k => if_pos rfl) k2)))))
      rcases stay_is A B hsA hsB L ctx _ hg (pairsL (A.length : Int) L 0 0) (by omega) (pairsL (A.length : Int) L 0 0).length 0 0 0 (by omega) (by rw [List.drop_zero]; exact hio) (Int.le_refl _) (Int.le_refl _) with ⟨⟨r, r1, r2⟩, e, he⟩ | ⟨k1, k2⟩
      · refine Or.inl ⟨fun ⟨L', hb, _⟩ => ?_, e, hj1 _ he⟩
        obtain rfl : L = L' := congrArg Prod.fst (hpair.symm.trans hb.norm)
        rw [List.drop_zero] at r1
        exact r2 (hb.whole r r1)
      · exact Or.inr ⟨L, ⟨hvv.1, hvv.2, by omega, by omega, hpair, by rw [List.drop_zero] at k1; exact k1⟩, by omega, by omega, hj1 _ k2⟩
end Go.Proofs.YtecjoofjiockkaaDoor.Pure
namespace Go.Proofs.YtecjoofjiockkaaDoor.Pure
open Go.RowKit Go.Proofs.YtecjoofjiockkaaDoor.Pp Go.Proofs.YtecjoofjiockkaaDoor.Ext Go.Proofs.YtecjoofjiockkaaDoorW.PrintWords Go.Proofs.YtecjoofjiockkaaDoorW.PrintLast Go.Proofs.YtecjoofjiockkaaDoorW.PrintMore
set_option linter.unusedVariables false
set_option linter.unusedSimpArgs false
def endOld (l : List Row) : Bool := l.any fun r => isOld r && !whole r.f1
def endNew (l : List Row) : Bool := l.any fun r => isNew r && !whole r.f1
def aheadI (a n : Int) : Int := if n > 0 then a - 1 else a
attribute [local irreducible] aheadI
def ordL : List Hunk → Int → Int → Bool → Bool → Bool
  | [], _, _, _, _ => true
  | h :: t, a, b, e, o =>
    if aheadI h.f0 h.f1 < a then false else if aheadI h.f2 h.f3 < b then false
    else if aheadI h.f0 h.f1 - aheadI h.f2 h.f3 = a - b then
      (if e = true ∧ h.f1 > 0 then false else if o = true ∧ h.f3 > 0 then false
       else ordL t (aheadI h.f0 h.f1 + h.f1) (aheadI h.f2 h.f3 + h.f3) (e || endOld h.f5) (o || endNew h.f5))
    else false
def orderS (l : List Hunk) : Option Int := if l.all hunkOk = true then (if ordL l 0 0 false false = true then none else some 112) else some 100
end Go.Proofs.YtecjoofjiockkaaDoor.Pure
namespace Go.Proofs.YtecjoofjiockkaaDoor.Pure
open Go.RowKit Go.Proofs.YtecjoofjiockkaaDoor.Pp Go.Proofs.YtecjoofjiockkaaDoor.Ext Go.Proofs.YtecjoofjiockkaaDoorW.PrintWords Go.Proofs.YtecjoofjiockkaaDoorW.PrintLast Go.Proofs.YtecjoofjiockkaaDoorW.PrintMore
set_option linter.unusedVariables false
set_option linter.unusedSimpArgs false
def lw (s : ByteArray) : Bool × Bool := (line s, whole s)
def alike {β : Type} (f : ByteArray → β) (A B : List ByteArray) (a b d : Int) : Prop := ∀ i : Int, 0 ≤ i → i < d → f (A.getD (a + i).toNat ByteArray.empty) = f (B.getD (b + i).toNat ByteArray.empty)
theorem alike_sub {β : Type} {f : ByteArray → β} {A B : List ByteArray} {a b d : Int} (h : alike f A B a b d) (s d' : Int) (hs : 0 ≤ s) (hd : s + d' ≤ d) : alike f A B (a + s) (b + s) d' := fun i h0 h1 => by
  have := h (s + i) (by omega) (by omega)
  rw [show a + s + i = a + (s + i) by omega, show b + s + i = b + (s + i) by omega]
  exact this
theorem alike_nil {β : Type} (f : ByteArray → β) (A B : List ByteArray) (a b d : Int) (h : d ≤ 0) : alike f A B a b d := fun i h0 h1 => by omega
theorem alike_cut {β : Type} {f : ByteArray → β} {A B : List ByteArray} {a b d : Int} (h : alike f A B a b d) (ha : 0 ≤ a) (hb : 0 ≤ b) (hd : 0 ≤ d) (h1 : a + d ≤ (A.length : Int)) (h2 : b + d ≤ (B.length : Int)) : (cut A a (a + d)).map f = (cut B b (b + d)).map f := by
  apply List.ext_getElem?
  intro i
  rw [List.getElem?_map, List.getElem?_map, cut_get?, cut_get?]
  by_cases hi : (i : Int) < d
  · rw [if_pos (by omega), if_pos (by omega)]
    have := h i (by omega) hi
    rw [show (a + (i : Int)).toNat = a.toNat + i by omega, show (b + (i : Int)).toNat = b.toNat + i by omega, List.getD_eq_getElem?_getD, List.getD_eq_getElem?_getD, List.getElem?_eq_getElem (by omega), List.getElem?_eq_getElem (by omega)] at this
    rw [List.getElem?_eq_getElem (by omega), List.getElem?_eq_getElem (by omega)]
    exact congrArg some this
  · rw [if_neg (by omega), if_neg (by omega)]
theorem valid_lw : ∀ (x y : List ByteArray), x.map lw = y.map lw → validL x = validL y
  | [], [], h => rfl
  | [], _ :: _, h => by simp at h
  | _ :: _, [], h => by simp at h
  | s :: x, r :: y, h => by
    rw [List.map_cons, List.map_cons] at h
    obtain ⟨h1, h2⟩ := List.cons.inj h
    have e1 : line s = line r := congrArg Prod.fst h1
    have e2 : whole s = whole r := congrArg Prod.snd h1
    have e3 : x.isEmpty = y.isEmpty := by
      cases x <;> cases y <;> simp at h2 ⊢
    rw [validL, validL, valid_lw x y h2, e1, e2, e3]
theorem valid_at' : ∀ (l : List ByteArray) (i : Nat), validL l = true → i < l.length → line (l.getD i ByteArray.empty) = true ∧ (whole (l.getD i ByteArray.empty) = false → i + 1 = l.length)
  | [], i, h, hi => absurd hi (by simp)
  | s :: t, 0, h, hi => by
    rw [validL, Bool.and_eq_true, Bool.and_eq_true, Bool.or_eq_true] at h
    refine ⟨h.1.1, fun hw => ?_⟩
    have hw' : whole s = false := hw
    rcases h.1.2 with h2 | h2
    · rw [List.isEmpty_iff] at h2; subst h2; rfl
    · rw [hw'] at h2; cases h2
  | s :: t, i + 1, h, hi => by
    rw [validL, Bool.and_eq_true, Bool.and_eq_true] at h
    obtain ⟨h1, h2⟩ := valid_at' t i h.2 (by simpa using hi)
    exact ⟨h1, fun hw => by rw [List.length_cons, h2 hw]⟩
theorem valid_drop : ∀ (l : List ByteArray) (n : Nat), validL l = true → validL (l.drop n) = true
  | l, 0, h => h
  | [], n + 1, h => h
  | s :: t, n + 1, h => by
    rw [validL, Bool.and_eq_true] at h
    exact valid_drop t n h.2
theorem valid_take : ∀ (l : List ByteArray) (n : Nat), validL l = true → validL (l.take n) = true
  | l, 0, h => rfl
  | [], n + 1, h => h
  | s :: t, n + 1, h => by
    rw [validL, Bool.and_eq_true, Bool.and_eq_true, Bool.or_eq_true] at h
    obtain ⟨⟨h1, h2⟩, h3⟩ := h
    rw [List.take_succ_cons, validL, h1, valid_take t n h3, Bool.true_and, Bool.and_true, Bool.or_eq_true]
    rcases h2 with h2 | h2
    · left
      cases t with
      | nil => rw [List.take_nil]; rfl
      | cons => cases h2
    · exact Or.inr h2
theorem valid_cut {l : List ByteArray} (h : validL l = true) (a b : Int) : validL (cut l a b) = true := valid_drop _ _ (valid_take _ _ h)
theorem cut_mem {l : List ByteArray} {a b : Int} {s : ByteArray} (h : s ∈ cut l a b) : ∃ i, i < l.length ∧ i < b.toNat ∧ l.getD i ByteArray.empty = s := by
  obtain ⟨i, hi⟩ := List.mem_iff_getElem?.mp h
  rw [cut_get?] at hi
  split at hi
  · obtain ⟨h1, h2⟩ := List.getElem?_eq_some_iff.mp hi
    exact ⟨a.toNat + i, h1, by omega, by rw [List.getD_eq_getElem?_getD, hi]; rfl⟩
  · cases hi
theorem cut_open {l : List ByteArray} (hv : validL l = true) {a b : Int} (hb : b ≤ (l.length : Int)) (h : (cut l a b).any (fun s => !whole s) = true) : b = (l.length : Int) := by
  obtain ⟨s, hs, hw⟩ := List.any_eq_true.mp h
  obtain ⟨i, h1, h2, h3⟩ := cut_mem hs
  have := (valid_at' l i hv h1).2 (by rw [h3]; simpa using hw)
  omega
theorem oldT_app (x y : List Row) : oldT (x ++ y) = oldT x ++ oldT y := by unfold oldT; rw [List.filter_append, List.map_append]
theorem newT_app (x y : List Row) : newT (x ++ y) = newT x ++ newT y := by unfold newT; rw [List.filter_append, List.map_append]
theorem side_put (o : Int) (T : List ByteArray) : oldT (putL o T) = (if o = 1 ∨ o = 2 then T else []) ∧ newT (putL o T) = (if o = 1 ∨ o = 3 then T else []) := by
  induction T with
  | nil => constructor <;> split <;> rfl
  | cons s t ih =>
    have e1 : isOld (⟨o, s⟩ : Row) = decide (o = 1 ∨ o = 2) := by unfold isOld; by_cases a : o = 1 <;> by_cases b : o = 2 <;> simp [a, b]
    have e2 : isNew (⟨o, s⟩ : Row) = decide (o = 1 ∨ o = 3) := by unfold isNew; by_cases a : o = 1 <;> by_cases b : o = 3 <;> simp [a, b]
    show oldT ((⟨o, s⟩ : Row) :: putL o t) = _ ∧ newT ((⟨o, s⟩ : Row) :: putL o t) = _
    rw [oldT_cons, newT_cons, ih.1, ih.2, e1, e2]
    constructor
    · by_cases h : o = 1 ∨ o = 2 <;> simp [h]
    · by_cases h : o = 1 ∨ o = 3 <;> simp [h]
theorem chg_sides (A B : List ByteArray) (x : Chg) : oldT (chgR A B x) = cut A x.f0 (x.f0 + x.f1) ∧ newT (chgR A B x) = cut B x.f2 (x.f2 + x.f3) := by
  unfold chgR
  rw [oldT_app, newT_app, (side_put 2 _).1, (side_put 2 _).2, (side_put 3 _).1, (side_put 3 _).2]
  simp
def comW {β : Type} (f : ByteArray → β) (A B : List ByteArray) (e : Int) : List Chg → Int → Int → Prop
  | [], a, b => alike f A B a b (e - a)
  | c :: t, a, b => alike f A B a b (c.f0 - a) ∧ comW f A B e t (c.f0 + c.f1) (c.f2 + c.f3)
theorem rows_old (A B : List ByteArray) (e : Int) (he : e ≤ (A.length : Int)) : ∀ (G : List Chg) (a b : Int), okV (A.length : Int) (B.length : Int) G a b → 0 ≤ a → 0 ≤ b → lastE G a ≤ e → oldT (rowsG A B a G e) = cut A a e
  | [], a, b, h, ha, hb, hl => by rw [rowsG, (side_put 1 _).1, if_pos (Or.inl rfl)]
  | c :: t, a, b, h, ha, hb, hl => by
    obtain ⟨⟨q1, q2, q3, q4, q5, q6, q7, q8, q9, q10⟩, ht⟩ := h
    have hg := lastE_ge _ _ t _ _ (c.f0 + c.f1) ht (Int.le_refl _)
    have hl' : lastE t (c.f0 + c.f1) ≤ e := hl
    rw [rowsG_cons, oldT_app, oldT_app, (side_put 1 _).1, if_pos (Or.inl rfl), (chg_sides A B c).1, rows_old A B e he t _ _ ht (by omega) (by omega) hl,
      cut_app A c.f0 (c.f0 + c.f1) e (by omega) (by omega) (by omega) he, cut_app A a c.f0 e ha q4 (by omega) he]
theorem rows_new {β : Type} (f : ByteArray → β) (A B : List ByteArray) (e : Int) (he : e ≤ (A.length : Int)) : ∀ (G : List Chg) (a b : Int), okV (A.length : Int) (B.length : Int) G a b → 0 ≤ a → 0 ≤ b → lastE G a ≤ e → comW f A B e G a b → lastB G b + (e - lastE G a) ≤ (B.length : Int) →
    (newT (rowsG A B a G e)).map f = (cut B b (lastB G b + (e - lastE G a))).map f
  | [], a, b, h, ha, hb, hl, hc, hm => by
    have hl' : a ≤ e := hl
    have hm' : b + (e - a) ≤ (B.length : Int) := hm
    have := alike_cut hc ha hb (by omega) (by omega) hm'
    rw [rowsG, (side_put 1 _).2, if_pos (Or.inl rfl)]
    rw [show a + (e - a) = e by omega] at this
    exact this
  | c :: t, a, b, h, ha, hb, hl, hc, hm => by
    obtain ⟨⟨q1, q2, q3, q4, q5, q6, q7, q8, q9, q10⟩, ht⟩ := h
    obtain ⟨hc1, hc2⟩ := hc
    have hg := lastB_le _ _ t _ _ ht
    have hl' : lastE t (c.f0 + c.f1) ≤ e := hl
    have hm' : lastB t (c.f2 + c.f3) + (e - lastE t (c.f0 + c.f1)) ≤ (B.length : Int) := hm
    have h1 := alike_cut hc1 ha hb (by omega) (by omega) (by omega)
    rw [show a + (c.f0 - a) = c.f0 by omega, show b + (c.f0 - a) = c.f2 by omega] at h1
    rw [rowsG_cons, newT_app, newT_app, (side_put 1 _).2, if_pos (Or.inl rfl), (chg_sides A B c).2, List.map_append, List.map_append, rows_new f A B e he t _ _ ht (by omega) (by omega) hl hc2 hm', h1, ← List.map_append, ← List.map_append]
    show (cut B b c.f2 ++ (cut B c.f2 (c.f2 + c.f3) ++ cut B (c.f2 + c.f3) (lastB t (c.f2 + c.f3) + (e - lastE t (c.f0 + c.f1))))).map f = _
    rw [cut_app B c.f2 (c.f2 + c.f3) _ (by omega) (by omega) (by omega) hm', cut_app B b c.f2 _ hb q6 (by omega) hm']
    rfl
theorem put_kind (o : Int) (T : List ByteArray) : ∀ r ∈ putL o T, r.f0 = o := fun r hr => by
  obtain ⟨t, _, rfl⟩ := List.mem_map.mp hr
  rfl
theorem rows_kinds (A B : List ByteArray) (e : Int) : ∀ (G : List Chg) (a : Int), ∀ r ∈ rowsG A B a G e, r.f0 = 1 ∨ r.f0 = 2 ∨ r.f0 = 3
  | [], a, r, hr => Or.inl (put_kind 1 _ r hr)
  | c :: t, a, r, hr => by
    rw [rowsG] at hr
    rcases List.mem_append.mp hr with h | h
    · exact Or.inl (put_kind 1 _ r h)
    rcases List.mem_append.mp h with h | h
    · exact Or.inr (Or.inl (put_kind 2 _ r h))
    rcases List.mem_append.mp h with h | h
    · exact Or.inr (Or.inr (put_kind 3 _ r h))
    exact rows_kinds A B e t _ r h
theorem rows_change (A B : List ByteArray) (e a b : Int) (c : Chg) (t : List Chg) (h : okC (A.length : Int) (B.length : Int) a b c) (ha : 0 ≤ a) (hb : 0 ≤ b) : ∃ r ∈ rowsG A B a (c :: t) e, r.f0 ≠ 1 := by
  have hne := chg_len A B _ _ a b rfl rfl ha hb c h
  rw [rowsG_cons]
  cases hc : chgR A B c with
  | nil => exact absurd hc hne
  | cons r l =>
    have hr := chg_nb A B c r (by rw [hc]; exact List.mem_cons_self)
    refine ⟨r, List.mem_append_right _ List.mem_cons_self, ?_⟩
    unfold nb at hr
    simpa using hr
theorem rowsOk_of : ∀ (R : List Row) (e o ch : Bool), (∀ r ∈ R, r.f0 = 1 ∨ r.f0 = 2 ∨ r.f0 = 3) → (e = true → oldT R = []) → (o = true → newT R = []) → validL (oldT R) = true → validL (newT R) = true → (ch = true ∨ ∃ r ∈ R, r.f0 ≠ 1) → rowsOk R e o ch = true
  | [], e, o, ch, hk, he, ho, hv, hw, hc => by
    rcases hc with hc | ⟨r, hr, _⟩
    · rw [rowsOk]; exact hc
    · cases hr
  | r :: t, e, o, ch, hk, he, ho, hv, hw, hc => by
    have hkt : ∀ x ∈ t, x.f0 = 1 ∨ x.f0 = 2 ∨ x.f0 = 3 := fun x hx => hk x (List.mem_cons_of_mem _ hx)
    have hch : (ch || (r.f0 != 1)) = true ∨ ∃ x ∈ t, x.f0 ≠ 1 := by
      rcases hc with hc | ⟨x, hx, hx1⟩
      · left; rw [hc]; rfl
      · rcases List.mem_cons.mp hx with rfl | hx
        · left; rw [bne_iff_ne.mpr hx1, Bool.or_true]
        · exact Or.inr ⟨x, hx, hx1⟩
    rw [oldT_cons] at he hv
    rw [newT_cons] at ho hw
    have hv2 : ∀ (b : Bool) (s : ByteArray) (q : List ByteArray), b = true → validL ((if b = true then [s] else []) ++ q) = true → line s = true ∧ validL q = true ∧ (whole s = false → q = []) := by
      intro b s q hb h
      rw [if_pos hb, List.singleton_append, validL, Bool.and_eq_true, Bool.and_eq_true, Bool.or_eq_true] at h
      obtain ⟨⟨h1, h2⟩, h3⟩ := h
      refine ⟨h1, h3, fun hf => ?_⟩
      rw [hf] at h2
      cases q with
      | nil => rfl
      | cons => rcases h2 with h2 | h2 <;> cases h2
    have hno : ∀ (b x : Bool) (s : ByteArray) (q : List ByteArray), b = true → (x = true → (if b = true then [s] else []) ++ q = []) → x = false := by
      intro b x s q hb h
      cases x with
      | false => rfl
      | true => have := h rfl; rw [if_pos hb] at this; cases this
    rw [rowsOk]
    rcases kinds r with ⟨k, i1, i2⟩ | ⟨k, i1, i2⟩ | ⟨k, i1, i2⟩ | ⟨⟨k1, k2, k3⟩, _, _⟩
    · obtain ⟨l1, v1, w1⟩ := hv2 _ _ _ i1 hv
      obtain ⟨l2, v2, w2⟩ := hv2 _ _ _ i2 hw
      obtain rfl := hno _ e _ _ i1 he
      obtain rfl := hno _ o _ _ i2 ho
      have hg : good r false false = true := by unfold good; rw [i1, i2, l1]; rfl
      rw [if_pos hg]
      refine rowsOk_of t _ _ _ hkt (fun h => ?_) (fun h => ?_) v1 v2 hch
      · rw [i1] at h; exact w1 (by simpa using h)
      · rw [i2] at h; exact w2 (by simpa using h)
    · obtain ⟨l1, v1, w1⟩ := hv2 _ _ _ i1 hv
      rw [if_neg (by rw [i2]; simp), List.nil_append] at hw ho
      obtain rfl := hno _ e _ _ i1 he
      have hg : good r false o = true := by unfold good; rw [i1, i2, l1]; rfl
      rw [if_pos hg]
      refine rowsOk_of t _ _ _ hkt (fun h => ?_) (fun h => ?_) v1 hw hch
      · rw [i1] at h; exact w1 (by simpa using h)
      · rw [i2] at h; exact ho (by simpa using h)
    · obtain ⟨l2, v2, w2⟩ := hv2 _ _ _ i2 hw
      rw [if_neg (by rw [i1]; simp), List.nil_append] at hv he
      obtain rfl := hno _ o _ _ i2 ho
      have hg : good r e false = true := by unfold good; rw [i1, i2, l2]; rfl
      rw [if_pos hg]
      refine rowsOk_of t _ _ _ hkt (fun h => ?_) (fun h => ?_) hv v2 hch
      · rw [i1] at h; exact he (by simpa using h)
      · rw [i2] at h; exact w2 (by simpa using h)
    · rcases hk r List.mem_cons_self with h | h | h
      · exact absurd h k1
      · exact absurd h k2
      · exact absurd h k3
end Go.Proofs.YtecjoofjiockkaaDoor.Pure
namespace Go.Proofs.YtecjoofjiockkaaDoor.Pure
open Go.RowKit Go.Proofs.YtecjoofjiockkaaDoor.Pp Go.Proofs.YtecjoofjiockkaaDoor.Ext Go.Proofs.YtecjoofjiockkaaDoorW.PrintWords Go.Proofs.YtecjoofjiockkaaDoorW.PrintLast Go.Proofs.YtecjoofjiockkaaDoorW.PrintMore
set_option linter.unusedVariables false
set_option linter.unusedSimpArgs false
abbrev Chg1 := S53
noncomputable def normI (s : List Chg1) (n m : Int) : List Chg1 × Option Int := if n < 0 ∨ m < 0 then ([], some 1) else normS s n m
noncomputable def endS (s : List Chg1) (n m : Int) : List Chg1 × Option Int := ((normI s n m).1, if (normI s n m).2 = some 1 then some 60 else (normI s n m).2)
noncomputable def scriptS (l : List Hunk) (n m : Int) : List Chg1 × Option Int := if (orderS l).isNone = true then endS (scrHunks l []) n m else ([], orderS l)
end Go.Proofs.YtecjoofjiockkaaDoor.Pure
namespace Go.Proofs.YtecjoofjiockkaaDoor.Pure
open Go.RowKit Go.Proofs.YtecjoofjiockkaaDoor.Pp Go.Proofs.YtecjoofjiockkaaDoor.Ext Go.Proofs.YtecjoofjiockkaaDoorW.PrintWords Go.Proofs.YtecjoofjiockkaaDoorW.PrintLast Go.Proofs.YtecjoofjiockkaaDoorW.PrintMore
set_option linter.unusedVariables false
set_option linter.unusedSimpArgs false
def Pc.ns (p : Pc) : Int := nsOf p.st p.G
def Pc.eb (p : Pc) : Int := lastB p.G p.ns + (p.e - lastE p.G p.st)
structure Pok {β : Type} (f : ByteArray → β) (A B : List ByteArray) (p : Pc) : Prop where
  ne : p.G ≠ []
  s0 : 0 ≤ p.st
  b0 : 0 ≤ p.ns
  ok : okV (A.length : Int) (B.length : Int) p.G p.st p.ns
  le : lastE p.G p.st ≤ p.e
  en : p.e ≤ (A.length : Int)
  eb : p.eb ≤ (B.length : Int)
  com : comW f A B p.e p.G p.st p.ns
def Ch {β : Type} (f : ByteArray → β) (A B : List ByteArray) : List Pc → Int → Int → Prop
  | [], a, b => a ≤ (A.length : Int) ∧ b ≤ (B.length : Int)
  | p :: t, a, b => Pok f A B p ∧ a ≤ p.st ∧ p.st - a = p.ns - b ∧ Ch f A B t p.e p.eb
theorem com_ext {β : Type} {f : ByteArray → β} (A B : List ByteArray) (x e : Int) : ∀ (G : List Chg) (a b : Int), comW f A B (lastE G a) G a b → alike f A B (lastE G a) (lastB G b) (e - lastE G a) → comW f A B e G a b
  | [], a, b, h, h2 => h2
  | c :: t, a, b, h, h2 => ⟨h.1, com_ext A B x e t _ _ h.2 h2⟩
theorem com_snoc {β : Type} {f : ByteArray → β} (A B : List ByteArray) (x : Chg) : ∀ (G : List Chg) (a b : Int), comW f A B (lastE G a) G a b → alike f A B (lastE G a) (lastB G b) (x.f0 - lastE G a) → comW f A B (x.f0 + x.f1) (G ++ [x]) a b
  | [], a, b, h, h2 => ⟨h2, alike_nil _ _ _ _ _ _ (by omega)⟩
  | c :: t, a, b, h, h2 => ⟨h.1, com_snoc A B x t _ _ h.2 h2⟩
theorem ch_gr {β : Type} {f : ByteArray → β} (A B : List ByteArray) (c : Int) (hc : 0 ≤ c) : ∀ (t : List Chg) (st ns : Int) (G : List Chg) (a b : Int), G ≠ [] → nsOf st G = ns → 0 ≤ st → 0 ≤ ns → okV (A.length : Int) (B.length : Int) G st ns → comW f A B (lastE G st) G st ns →
    validP (A.length : Int) (B.length : Int) t (lastE G st) (lastB G ns) → comW f A B (A.length : Int) t (lastE G st) (lastB G ns) → a ≤ st → st - a = ns - b → Ch f A B (gr c (A.length : Int) st G (lastE G st) t) a b
  | [], st, ns, G, a, b, hG, hns, hs, hb, hv, hcm, hv2, hc2, h1, h2 => by
    subst hns
    have hv' : (A.length : Int) - lastE G st = (B.length : Int) - lastB G (nsOf st G) := hv2
    have g := lastB_le _ _ G st _ hv
    rw [gr]
    obtain ⟨y, hy⟩ : ∃ y, y = (if lastE G st + c < (A.length : Int) then lastE G st + c else (A.length : Int)) := ⟨_, rfl⟩
    rw [← hy]
    have hy1 : lastE G st ≤ y ∧ y ≤ (A.length : Int) := by rw [hy]; split <;> omega
    have ha := alike_sub (d' := y - lastE G st) (show alike f A B (lastE G st) (lastB G (nsOf st G)) ((A.length : Int) - lastE G st) from hc2) 0 (Int.le_refl _) (by omega)
    rw [Int.add_zero, Int.add_zero] at ha
    have heb : lastB G (nsOf st G) + (y - lastE G st) ≤ (B.length : Int) := by omega
    exact ⟨⟨hG, hs, hb, hv, hy1.1, hy1.2, heb, com_ext A B y y G st _ hcm ha⟩, h1, h2, hy1.2, heb⟩
  | x :: t, st, ns, G, a, b, hG, hns, hs, hb, hv, hcm, hv2, hc2, h1, h2 => by
    obtain ⟨hx, hvt⟩ := hv2
    obtain ⟨hcx, hct⟩ := hc2
    have hx0 := hx
    obtain ⟨q1, q2, q3, q4, q5, q6, q7, q8, q9, q10⟩ := hx0
    have g := lastB_le _ _ G st _ hv
    rw [gr]
    by_cases q : x.f0 - lastE G st ≤ 2 * c
    · rw [if_pos q]
      have := ch_gr A B c hc t st ns (G ++ [x]) a b (by simp) (by rw [ns_snoc st G hG]; exact hns) hs hb (okV_snoc _ _ x G st ns hv hx) (by rw [lastE_app]; exact com_snoc A B x G st ns hcm hcx)
        (by rw [lastE_app, lastB_app]; exact hvt) (by rw [lastE_app, lastB_app]; exact hct) h1 h2
      rw [lastE_app] at this
      exact this
    · rw [if_neg q]
      subst hns
      have ha := alike_sub hcx 0 c (Int.le_refl _) (by omega)
      rw [Int.add_zero, Int.add_zero] at ha
      have hb2 := alike_sub hcx (x.f0 - lastE G st - c) c (by omega) (by omega)
      rw [show lastE G st + (x.f0 - lastE G st - c) = x.f0 - c by omega, show lastB G (nsOf st G) + (x.f0 - lastE G st - c) = x.f2 - c by omega] at hb2
      have heb : lastB G (nsOf st G) + (lastE G st + c - lastE G st) ≤ (B.length : Int) := by omega
      have := ch_gr A B c hc t (x.f0 - c) (x.f2 - c) [x] (lastE G st + c) (lastB G (nsOf st G) + (lastE G st + c - lastE G st)) (by simp) (by show x.f2 - (x.f0 - (x.f0 - c)) = _; omega) (by omega) (by omega)
        ⟨⟨q1, q2, q3, by omega, q5, by omega, q7, by omega, q9, q10⟩, by omega, by omega⟩ ⟨by rw [show x.f0 - (x.f0 - c) = c by omega]; exact hb2, alike_nil _ _ _ _ _ _ (by show x.f0 + x.f1 - (x.f0 + x.f1) ≤ 0; omega)⟩ hvt hct (by omega) (by omega)
      exact ⟨⟨hG, hs, hb, hv, by show lastE G st ≤ lastE G st + c; omega, by show lastE G st + c ≤ _; omega, heb, com_ext A B (lastE G st + c) _ G st _ hcm (by rw [show lastE G st + c - lastE G st = c by omega]; exact ha)⟩, h1, h2, this⟩
theorem ch_grs {β : Type} {f : ByteArray → β} (A B : List ByteArray) (c : Int) (hc : 0 ≤ c) (L : List Chg) (hv : validP (A.length : Int) (B.length : Int) L 0 0) (hcm : comW f A B (A.length : Int) L 0 0) : Ch f A B (grs c 0 (A.length : Int) L) 0 0 := by
  cases L with
  | nil => exact ⟨by omega, by omega⟩
  | cons x t =>
    obtain ⟨hx, hvt⟩ := hv
    obtain ⟨hcx, hct⟩ := hcm
    obtain ⟨q1, q2, q3, q4, q5, q6, q7, q8, q9, q10⟩ := hx
    rw [grs]
    obtain ⟨st, hst⟩ : ∃ st, st = (if x.f0 - c < 0 then 0 else x.f0 - c) := ⟨_, rfl⟩
    rw [← hst]
    have h1 : 0 ≤ st ∧ st ≤ x.f0 := by rw [hst]; split <;> omega
    have ha := alike_sub hcx st (x.f0 - st) h1.1 (by omega)
    rw [Int.zero_add] at ha
    exact ch_gr A B c hc t st st [x] 0 0 (by simp) (by show x.f2 - (x.f0 - st) = _; omega) h1.1 h1.1 ⟨⟨q1, q2, q3, h1.2, q5, by omega, q7, by omega, q9, q10⟩, by omega, by omega⟩ ⟨ha, alike_nil _ _ _ _ _ _ (by show x.f0 + x.f1 - (x.f0 + x.f1) ≤ 0; omega)⟩ hvt hct h1.1 (by omega)
theorem com_runs (A B : List ByteArray) (va : validL A = true) (vb : validL B = true) (d : Nat) : ∀ (a b : Int), 0 ≤ a → 0 ≤ b → a + (d : Int) ≤ (A.length : Int) → b + (d : Int) ≤ (B.length : Int) → (∀ p ∈ runP a b d, whole (rdOf ByteArray.empty A p.f0) = whole (rdOf ByteArray.empty B p.f1)) → alike lw A B a b (d : Int) := by
  induction d with
  | zero => intro a b _ _ _ _ _; exact alike_nil _ _ _ _ _ _ (by omega)
  | succ d ih =>
    intro a b ha hb h1 h2 h i i0 i1
    by_cases hi : i = 0
    · subst hi
      have h3 := h ⟨a, b⟩ (by rw [runP]; exact List.mem_cons_self)
      have e1 := (valid_at' A a.toNat va (by omega)).1
      have e2 := (valid_at' B b.toNat vb (by omega)).1
      rw [Int.add_zero, Int.add_zero]
      unfold lw
      rw [e1, e2]
      exact congrArg _ h3
    · have := ih (a + 1) (b + 1) (by omega) (by omega) (by omega) (by omega) (fun p hp => h p (by rw [runP]; exact List.mem_cons_of_mem _ hp)) (i - 1) (by omega) (by omega)
      rw [show a + 1 + (i - 1) = a + i by omega, show b + 1 + (i - 1) = b + i by omega] at this
      exact this
theorem com_pairs (A B : List ByteArray) (va : validL A = true) (vb : validL B = true) : ∀ (L : List Chg) (a b : Int), validP (A.length : Int) (B.length : Int) L a b → 0 ≤ a → 0 ≤ b → a ≤ (A.length : Int) → (∀ p ∈ pairsL (A.length : Int) L a b, whole (rdOf ByteArray.empty A p.f0) = whole (rdOf ByteArray.empty B p.f1)) → comW lw A B (A.length : Int) L a b
  | [], a, b, hv, ha, hb, hn, h => by
    have hv' : (A.length : Int) - a = (B.length : Int) - b := hv
    have := com_runs A B va vb ((A.length : Int) - a).toNat a b ha hb (by omega) (by omega) h
    rw [show ((((A.length : Int) - a).toNat : Nat) : Int) = (A.length : Int) - a by omega] at this
    exact this
  | c :: t, a, b, hv, ha, hb, hn, h => by
    obtain ⟨⟨q1, q2, q3, q4, q5, q6, q7, q8, q9, q10⟩, hvt⟩ := hv
    have := com_runs A B va vb (c.f0 - a).toNat a b ha hb (by omega) (by omega) (fun p hp => h p (by rw [pairsL]; exact List.mem_append_left _ hp))
    rw [show (((c.f0 - a).toNat : Nat) : Int) = c.f0 - a by omega] at this
    exact ⟨this, com_pairs A B va vb t _ _ hvt (by omega) (by omega) (by omega) (fun p hp => h p (by rw [pairsL]; exact List.mem_append_right _ hp))⟩
theorem pok_nums {β : Type} {f : ByteArray → β} {A B : List ByteArray} (hA : A.length ≤ 4194304) (hB : B.length ≤ 4194304) {p : Pc} (h : Pok f A B p) : (cntOld (hk A B p).f5 : Int) = p.e - p.st ∧ (cntNew (hk A B p).f5 : Int) = p.eb - p.ns ∧
    (hk A B p).f0 = (if p.e - p.st > 0 then p.st + 1 else p.st) ∧ (hk A B p).f1 = p.e - p.st ∧ (hk A B p).f2 = (if p.eb - p.ns > 0 then p.ns + 1 else p.ns) ∧ (hk A B p).f3 = p.eb - p.ns ∧ p.st ≤ p.e ∧ p.ns ≤ p.eb := by
  have g := lastB_le _ _ p.G p.st p.ns h.ok
  have d := lastB_dM _ _ p.G p.st p.ns h.ok
  have e1 := h.le
  have e2 := h.en
  have e3 := h.eb
  have hok := okV_okG _ _ p.e h.en p.G p.st p.ns p.st p.ns h.ok (Int.le_refl _) (Int.le_refl _) h.le (fun hh => absurd hh h.ne)
  obtain ⟨c1, c2⟩ := rows_cnt A B p.e p.G p.st p.ns hok h.s0 h.b0
  have c2' : (cntNew (rowsG A B p.st p.G p.e) : Int) = p.eb - p.ns := by unfold Pc.eb; omega
  have s0 := h.s0
  have b0 := h.b0
  have w1 : wrap64 (p.st + 1) = p.st + 1 := w64' (by omega) (by omega)
  have hnb : p.ns ≤ p.eb := by unfold Pc.eb; omega
  have w2 : wrap64 (p.ns + 1) = p.ns + 1 := w64' (by omega) (by omega)
  refine ⟨c1, c2', ?_, c1, ?_, c2', by omega, hnb⟩
  · show stIf p.st (cntOld (rowsG A B p.st p.G p.e)) = _
    unfold stIf; rw [w1]
    by_cases z : 0 < cntOld (rowsG A B p.st p.G p.e)
    · rw [if_pos z, if_pos (by omega)]
    · rw [if_neg z, if_neg (by omega)]
  · show stIf p.ns (cntNew (rowsG A B p.st p.G p.e)) = _
    unfold stIf; rw [w2]
    by_cases z : 0 < cntNew (rowsG A B p.st p.G p.e)
    · rw [if_pos z, if_pos (by omega)]
    · rw [if_neg z, if_neg (by omega)]
theorem pok_old {β : Type} {f : ByteArray → β} {A B : List ByteArray} {p : Pc} (h : Pok f A B p) : oldT (hk A B p).f5 = cut A p.st p.e := rows_old A B p.e h.en p.G p.st p.ns h.ok h.s0 h.b0 h.le
theorem pok_new {β : Type} {f : ByteArray → β} {A B : List ByteArray} {p : Pc} (h : Pok f A B p) : (newT (hk A B p).f5).map f = (cut B p.ns p.eb).map f := rows_new f A B p.e h.en p.G p.st p.ns h.ok h.s0 h.b0 h.le h.com h.eb
theorem pok_hunk {A B : List ByteArray} (va : validL A = true) (vb : validL B = true) (hA : A.length ≤ 4194304) (hB : B.length ≤ 4194304) {p : Pc} (h : Pok lw A B p) : hunkOk (hk A B p) = true := by
  obtain ⟨n1, n2, n3, n4, n5, n6, n7, n8⟩ := pok_nums hA hB h
  have s0 := h.s0
  have b0 := h.b0
  have e2 := h.en
  have e3 := h.eb
  have hr : rowsOk (hk A B p).f5 false false false = true := by
    refine rowsOk_of _ _ _ _ (rows_kinds A B p.e p.G p.st) (fun h => by cases h) (fun h => by cases h) (by rw [pok_old h]; exact valid_cut va _ _) (by rw [valid_lw _ _ (pok_new h)]; exact valid_cut vb _ _) (Or.inr ?_)
    have ho := h.ok
    show ∃ r ∈ rowsG A B p.st p.G p.e, _
    cases hG : p.G with
    | nil => exact absurd hG h.ne
    | cons c t => rw [hG] at ho; exact rows_change A B p.e p.st p.ns c t ho.1 h.s0 h.b0
  unfold hunkOk
  have p1 : placeOk (hk A B p).f0 (hk A B p).f1 = true := by
    unfold placeOk; apply decide_eq_true; rw [n3, n4]; split <;> omega
  have p2 : placeOk (hk A B p).f2 (hk A B p).f3 = true := by
    unfold placeOk; apply decide_eq_true; rw [n5, n6]; split <;> omega
  have p3 : headOk (hk A B p).f4 = true := by
    show headOk ⟨#[]⟩ = true
    unfold headOk
    rw [decide_eq_true (show (⟨#[]⟩ : ByteArray).size ≤ 4096 by decide), decide_eq_false (fun hh => by obtain ⟨j, hj, _⟩ := hh; exact absurd hj (Nat.not_lt_zero _))]
    rfl
  rw [hr, p1, p2, p3, decide_eq_true (by rw [n4, n1]), decide_eq_true (by rw [n6, n2])]
  rfl
theorem pok_ahead {β : Type} {f : ByteArray → β} {A B : List ByteArray} (hA : A.length ≤ 4194304) (hB : B.length ≤ 4194304) {p : Pc} (h : Pok f A B p) : aheadI (hk A B p).f0 (hk A B p).f1 = p.st ∧ aheadI (hk A B p).f2 (hk A B p).f3 = p.ns := by
  obtain ⟨n1, n2, n3, n4, n5, n6, n7, n8⟩ := pok_nums hA hB h
  rw [n3, n4, n5, n6]
  unfold aheadI
  constructor <;> (split <;> omega)
theorem any_lw (x y : List ByteArray) (h : x.map lw = y.map lw) : x.any (fun s => !whole s) = y.any (fun s => !whole s) := by
  have e : ∀ l : List ByteArray, l.any (fun s => !whole s) = (l.map lw).any (fun z => !z.2) := fun l => by rw [List.any_map]; rfl
  rw [e, e, h]
theorem end_sides (l : List Row) : endOld l = (oldT l).any (fun s => !whole s) ∧ endNew l = (newT l).any (fun s => !whole s) := by
  unfold endOld endNew oldT newT
  rw [List.any_map, List.any_map, List.any_filter, List.any_filter]
  exact ⟨rfl, rfl⟩
theorem ch_order {A B : List ByteArray} (va : validL A = true) (vb : validL B = true) (hA : A.length ≤ 4194304) (hB : B.length ≤ 4194304) : ∀ (ps : List Pc) (a b : Int) (e o : Bool), Ch lw A B ps a b → (e = true → (A.length : Int) ≤ a) → (o = true → (B.length : Int) ≤ b) → ordL (ps.map (hk A B)) a b e o = true
  | [], a, b, e, o, _, _, _ => rfl
  | p :: t, a, b, e, o, h, he, ho => by
    obtain ⟨hp, h1, h2, h3⟩ := h
    obtain ⟨n1, n2, n3, n4, n5, n6, n7, n8⟩ := pok_nums hA hB hp
    obtain ⟨k1, k2⟩ := pok_ahead hA hB hp
    have e2 := hp.en
    have e3 := hp.eb
    rw [List.map_cons, ordL, k1, k2, n4, n6, if_neg (by omega), if_neg (by omega), if_pos (by omega), if_neg (fun hh => by have := he hh.1; omega), if_neg (fun hh => by have := ho hh.1; omega)]
    rw [show p.st + (p.e - p.st) = p.e by omega, show p.ns + (p.eb - p.ns) = p.eb by omega]
    refine ch_order va vb hA hB t p.e p.eb _ _ h3 (fun hh => ?_) (fun hh => ?_)
    · rcases Bool.or_eq_true _ _ ▸ hh with hh | hh
      · have := he hh; omega
      · rw [(end_sides _).1, pok_old hp] at hh
        have := cut_open va e2 hh; omega
    · rcases Bool.or_eq_true _ _ ▸ hh with hh | hh
      · have := ho hh; omega
      · rw [(end_sides _).2, any_lw _ _ (pok_new hp)] at hh
        have := cut_open vb e3 hh; omega
theorem ch_all {β : Type} {f : ByteArray → β} {A B : List ByteArray} : ∀ (ps : List Pc) (a b : Int), Ch f A B ps a b → ∀ p ∈ ps, Pok f A B p
  | [], a, b, h, p, hp => by cases hp
  | q :: t, a, b, h, p, hp => by
    rcases List.mem_cons.mp hp with rfl | hp
    · exact h.1
    · exact ch_all t _ _ h.2.2.2 p hp
theorem ch_orderS {A B : List ByteArray} (va : validL A = true) (vb : validL B = true) (hA : A.length ≤ 4194304) (hB : B.length ≤ 4194304) (ps : List Pc) (h : Ch lw A B ps 0 0) : orderS (ps.map (hk A B)) = none := by
  unfold orderS
  rw [if_pos (List.all_eq_true.mpr fun x hx => by obtain ⟨p, hp, rfl⟩ := List.mem_map.mp hx; exact pok_hunk va vb hA hB (ch_all ps _ _ h p hp)), if_pos (ch_order va vb hA hB ps 0 0 false false h (fun h => by cases h) (fun h => by cases h))]
theorem scr_put1 (rest : List Row) : ∀ (T : List ByteArray) (a b : Int) (out : List Chg) (cur : Option Chg), T ≠ [] → 0 ≤ a → 0 ≤ b → a + (T.length : Int) ≤ 5000000 → b + (T.length : Int) ≤ 5000000 → scrRows (putL 1 T ++ rest) a b out cur = scrRows rest (a + (T.length : Int)) (b + (T.length : Int)) (out ++ cur.toList) none
  | [], a, b, out, cur, h, _, _, _, _ => absurd rfl h
  | s :: T, a, b, out, cur, h, ha, hb, h1, h2 => by
    rw [List.length_cons] at h1 h2
    have w1 : wrap64 (a + 1) = a + 1 := w64' (by omega) (by omega)
    have w2 : wrap64 (b + 1) = b + 1 := w64' (by omega) (by omega)
    show scrRows ((⟨1, s⟩ : Row) :: (putL 1 T ++ rest)) a b out cur = _
    rw [scrRows, if_pos rfl, w1, w2, List.length_cons]
    cases T with
    | nil => rfl
    | cons r T =>
      rw [scr_put1 rest (r :: T) (a + 1) (b + 1) (out ++ cur.toList) none (by simp) (by omega) (by omega) (by omega) (by omega)]
      rw [show a + 1 + ((r :: T).length : Int) = a + (((r :: T).length + 1 : Nat) : Int) by omega, show b + 1 + ((r :: T).length : Int) = b + (((r :: T).length + 1 : Nat) : Int) by omega]
      simp
theorem scr_put2 (rest : List Row) (b : Int) (out : List Chg) (x0 x2 x3 : Int) : ∀ (T : List ByteArray) (a x1 : Int), 0 ≤ a → 0 ≤ x1 → a + (T.length : Int) ≤ 5000000 → x1 + (T.length : Int) ≤ 5000000 → scrRows (putL 2 T ++ rest) a b out (some ⟨x0, x1, x2, x3⟩) = scrRows rest (a + (T.length : Int)) b out (some ⟨x0, x1 + (T.length : Int), x2, x3⟩)
  | [], a, x1, _, _, _, _ => by
    show scrRows rest a b out _ = scrRows rest (a + 0) b out (some ⟨x0, x1 + 0, x2, x3⟩)
    rw [Int.add_zero, Int.add_zero]
  | s :: T, a, x1, ha, hx, h1, h2 => by
    rw [List.length_cons] at h1 h2
    have w1 : wrap64 (a + 1) = a + 1 := w64' (by omega) (by omega)
    have w2 : wrap64 (x1 + 1) = x1 + 1 := w64' (by omega) (by omega)
    show scrRows ((⟨2, s⟩ : Row) :: (putL 2 T ++ rest)) a b out _ = _
    rw [scrRows, if_neg (show ¬ (2 : Int) = 1 by decide), if_pos rfl, w1]
    show scrRows _ _ b out (some ⟨x0, wrap64 (x1 + 1), x2, x3⟩) = _
    rw [w2, scr_put2 rest b out x0 x2 x3 T (a + 1) (x1 + 1) (by omega) (by omega) (by omega) (by omega), List.length_cons, show a + 1 + (T.length : Int) = a + ((T.length + 1 : Nat) : Int) by omega, show x1 + 1 + (T.length : Int) = x1 + ((T.length + 1 : Nat) : Int) by omega]
theorem scr_put3 (rest : List Row) (a : Int) (out : List Chg) (x0 x1 x2 : Int) : ∀ (T : List ByteArray) (b x3 : Int), 0 ≤ b → 0 ≤ x3 → b + (T.length : Int) ≤ 5000000 → x3 + (T.length : Int) ≤ 5000000 → scrRows (putL 3 T ++ rest) a b out (some ⟨x0, x1, x2, x3⟩) = scrRows rest a (b + (T.length : Int)) out (some ⟨x0, x1, x2, x3 + (T.length : Int)⟩)
  | [], b, x3, _, _, _, _ => by
    show scrRows rest a b out _ = scrRows rest a (b + 0) out (some ⟨x0, x1, x2, x3 + 0⟩)
    rw [Int.add_zero, Int.add_zero]
  | s :: T, b, x3, ha, hx, h1, h2 => by
    rw [List.length_cons] at h1 h2
    have w1 : wrap64 (b + 1) = b + 1 := w64' (by omega) (by omega)
    have w2 : wrap64 (x3 + 1) = x3 + 1 := w64' (by omega) (by omega)
    show scrRows ((⟨3, s⟩ : Row) :: (putL 3 T ++ rest)) a b out _ = _
    rw [scrRows, if_neg (show ¬ (3 : Int) = 1 by decide), if_neg (show ¬ (3 : Int) = 2 by decide), w1]
    show scrRows _ a _ out (some ⟨x0, x1, x2, wrap64 (x3 + 1)⟩) = _
    rw [w2, scr_put3 rest a out x0 x1 x2 T (b + 1) (x3 + 1) (by omega) (by omega) (by omega) (by omega), List.length_cons, show b + 1 + (T.length : Int) = b + ((T.length + 1 : Nat) : Int) by omega, show x3 + 1 + (T.length : Int) = x3 + ((T.length + 1 : Nat) : Int) by omega]
theorem scr_open (r : Row) (l : List Row) (a b : Int) (out : List Chg) (h : nb r = false) : scrRows (r :: l) a b out none = scrRows (r :: l) a b out (some ⟨a, 0, b, 0⟩) := by
  unfold nb at h
  have h1 : ¬ r.f0 = 1 := by simpa using h
  rw [scrRows, scrRows, if_neg h1, if_neg h1]
  rfl
theorem scr_chg (A B : List ByteArray) (hA : A.length ≤ 4194304) (hB : B.length ≤ 4194304) (x : Chg) (a b : Int) (ha : 0 ≤ a) (hb : 0 ≤ b) (h : okC (A.length : Int) (B.length : Int) a b x) (rest : List Row) (out : List Chg) :
    scrRows (chgR A B x ++ rest) x.f0 x.f2 out none = scrRows rest (x.f0 + x.f1) (x.f2 + x.f3) out (some x) := by
  have hne := chg_len A B _ _ a b rfl rfl ha hb x h
  have hnb := chg_nb A B x
  obtain ⟨q1, q2, q3, q4, q5, q6, q7, q8, q9, q10⟩ := h
  have l1 := cut_length A x.f0 (x.f0 + x.f1) (by omega) (by omega) (by omega)
  have l2 := cut_length B x.f2 (x.f2 + x.f3) (by omega) (by omega) (by omega)
  have e1 : scrRows (chgR A B x ++ rest) x.f0 x.f2 out none = scrRows (chgR A B x ++ rest) x.f0 x.f2 out (some ⟨x.f0, 0, x.f2, 0⟩) := by
    cases hc : chgR A B x with
    | nil => exact absurd hc hne
    | cons r l => exact scr_open r (l ++ rest) _ _ out (hnb r (by rw [hc]; exact List.mem_cons_self))
  rw [e1]
  unfold chgR
  rw [List.append_assoc, scr_put2 _ _ _ _ _ _ _ _ _ (by omega) (by omega) (by omega) (by omega), scr_put3 _ _ _ _ _ _ _ _ _ (by omega) (by omega) (by omega) (by omega), show x.f0 + ((cut A x.f0 (x.f0 + x.f1)).length : Int) = x.f0 + x.f1 by omega,
    show x.f2 + ((cut B x.f2 (x.f2 + x.f3)).length : Int) = x.f2 + x.f3 by omega, show (0 : Int) + ((cut A x.f0 (x.f0 + x.f1)).length : Int) = x.f1 by omega, show (0 : Int) + ((cut B x.f2 (x.f2 + x.f3)).length : Int) = x.f3 by omega]
def apart : List Chg → Int → Prop
  | [], _ => True
  | c :: t, z => z < c.f0 ∧ apart t (c.f0 + c.f1)
def apartG (G : List Chg) : Prop := match G with
  | [] => True
  | c :: t => apart t (c.f0 + c.f1)
theorem scr_rows (A B : List ByteArray) (hA : A.length ≤ 4194304) (hB : B.length ≤ 4194304) (e : Int) (he : e ≤ (A.length : Int)) : ∀ (G : List Chg) (a b : Int) (out : List Chg) (cur : Option Chg), okV (A.length : Int) (B.length : Int) G a b → 0 ≤ a → 0 ≤ b → lastE G a ≤ e → lastB G b + (e - lastE G a) ≤ (B.length : Int) → apartG G → (cur ≠ none → apart G a) →
    scrRows (rowsG A B a G e) a b out cur = out ++ cur.toList ++ G
  | [], a, b, out, cur, hv, ha, hb, hl, hm, hg, hc => by
    have hl' : a ≤ e := hl
    have hm' : b + (e - a) ≤ (B.length : Int) := hm
    have l1 := cut_length A a e ha hl' he
    show scrRows (putL 1 (cut A a e)) a b out cur = _
    rw [List.append_nil]
    by_cases h : cut A a e = []
    · rw [h]; rfl
    · have := scr_put1 [] (cut A a e) a b out cur h ha hb (by omega) (by omega)
      rw [List.append_nil] at this
      rw [this]
      show (out ++ cur.toList) ++ [] = _
      rw [List.append_nil]
  | c :: t, a, b, out, cur, hv, ha, hb, hl, hm, hg, hc => by
    obtain ⟨hx, ht⟩ := hv
    have hx0 := hx
    obtain ⟨q1, q2, q3, q4, q5, q6, q7, q8, q9, q10⟩ := hx0
    have l1 := cut_length A a c.f0 ha q4 q5
    have hg2 : apartG t := by
      have hg' : apart t (c.f0 + c.f1) := hg
      cases t with
      | nil => trivial
      | cons y t => exact hg'.2
    have ih := scr_rows A B hA hB e he t (c.f0 + c.f1) (c.f2 + c.f3) (out ++ cur.toList) (some c) ht (by omega) (by omega) hl hm hg2 (fun _ => hg)
    rw [rowsG_cons]
    by_cases h : cut A a c.f0 = []
    · have hac : a = c.f0 := by rw [h] at l1; simp at l1; omega
      have hbc : b = c.f2 := by omega
      have hcur : cur = none := by
        cases cur with
        | none => rfl
        | some z => have := (hc (by simp)).1; omega
      subst hcur
      rw [h, hac, hbc]
      show scrRows (chgR A B c ++ _) _ _ out none = _
      rw [scr_chg A B hA hB c a b ha hb hx]
      rw [Option.toList_none, List.append_nil] at ih
      rw [ih]; simp
    · rw [scr_put1 _ (cut A a c.f0) a b out cur h ha hb (by omega) (by omega), show a + ((cut A a c.f0).length : Int) = c.f0 by omega, show b + ((cut A a c.f0).length : Int) = c.f2 by omega, scr_chg A B hA hB c a b ha hb hx, ih]
      simp
theorem scr_ch {β : Type} {f : ByteArray → β} {A B : List ByteArray} (hA : A.length ≤ 4194304) (hB : B.length ≤ 4194304) : ∀ (ps : List Pc) (a b : Int) (out : List Chg), Ch f A B ps a b → (∀ p ∈ ps, apartG p.G) → scrHunks (ps.map (hk A B)) out = out ++ (ps.map (·.G)).flatten
  | [], a, b, out, _, _ => by simp [scrHunks]
  | p :: t, a, b, out, h, hg => by
    obtain ⟨hp, h1, h2, h3⟩ := h
    obtain ⟨n1, n2, n3, n4, n5, n6, n7, n8⟩ := pok_nums hA hB hp
    have s0 := hp.s0
    have b0 := hp.b0
    have e2 := hp.en
    have e3 := hp.eb
    have k1 : aheadF (hk A B p).f0 (hk A B p).f1 = p.st := by
      rw [n3, n4]; unfold aheadF
      by_cases z : p.e - p.st > 0
      · rw [if_pos z, if_pos z, w64' (by omega) (by omega)]; omega
      · rw [if_neg z, if_neg z]
    have k2 : aheadF (hk A B p).f2 (hk A B p).f3 = p.ns := by
      rw [n5, n6]; unfold aheadF
      by_cases z : p.eb - p.ns > 0
      · rw [if_pos z, if_pos z, w64' (by omega) (by omega)]; omega
      · rw [if_neg z, if_neg z]
    rw [List.map_cons, scrHunks, k1, k2]
    show scrHunks _ (scrRows (rowsG A B p.st p.G p.e) _ _ _ _) = _
    rw [scr_rows A B hA hB p.e hp.en p.G p.st p.ns out none hp.ok hp.s0 hp.b0 hp.le hp.eb (hg p List.mem_cons_self) (fun hh => absurd rfl hh), scr_ch hA hB t _ _ _ h3 (fun q hq => hg q (List.mem_cons_of_mem _ hq))]
    simp
theorem gr_flat (c n : Int) : ∀ (t : List Chg) (st : Int) (G : List Chg) (last : Int), ((gr c n st G last t).map (·.G)).flatten = G ++ t
  | [], st, G, last => by rw [gr]; simp
  | x :: t, st, G, last => by
    rw [gr]
    by_cases q : x.f0 - last ≤ 2 * c
    · rw [if_pos q, gr_flat c n t, List.append_assoc]; rfl
    · rw [if_neg q, List.map_cons, List.flatten_cons, gr_flat c n t]; rfl
theorem grs_flat (c n : Int) (L : List Chg) : ((grs c 0 n L).map (·.G)).flatten = L := by
  cases L with
  | nil => rfl
  | cons x t => rw [grs, gr_flat]; rfl
theorem apart_snoc (x : Chg) : ∀ (t : List Chg) (z : Int), apart t z → lastE t z < x.f0 → apart (t ++ [x]) z
  | [], z, h, h2 => ⟨h2, trivial⟩
  | c :: t, z, h, h2 => ⟨h.1, apart_snoc x t _ h.2 h2⟩
theorem gr_apart (c n : Int) : ∀ (t : List Chg) (st : Int) (G : List Chg) (last : Int), G ≠ [] → lastE G 0 = last → apartG G → apart t last → ∀ p ∈ gr c n st G last t, apartG p.G
  | [], st, G, last, h0, h1, h2, h3, p, hp => by
    rw [gr] at hp
    obtain rfl := List.mem_singleton.mp hp
    exact h2
  | x :: t, st, G, last, h0, h1, h2, h3, p, hp => by
    rw [gr] at hp
    by_cases q : x.f0 - last ≤ 2 * c
    · rw [if_pos q] at hp
      refine gr_apart c n t st (G ++ [x]) _ (by simp) (lastE_app x G 0) ?_ h3.2 p hp
      cases G with
      | nil => exact absurd rfl h0
      | cons y g => exact apart_snoc x g _ h2 (by have h1' : lastE g (y.f0 + y.f1) = last := h1; have := h3.1; omega)
    · rw [if_neg q] at hp
      rcases List.mem_cons.mp hp with rfl | hp
      · exact h2
      · exact gr_apart c n t (x.f0 - c) [x] _ (by simp) rfl trivial h3.2 p hp
theorem grs_apart (c n : Int) (L : List Chg) (z : Int) (h : apart L z) : ∀ p ∈ grs c 0 n L, apartG p.G := by
  cases L with
  | nil => intro p hp; cases hp
  | cons x t => exact gr_apart c n t _ [x] _ (by simp) rfl trivial h.2
theorem nrm_apart (n m : Int) : ∀ (s : List Chg) (pa pb qa qb z : Int), validP n m s qa qb → pa ≤ qa → (pa < qa ∨ pb < qb) → z < pa → apart (nrm s pa pb qa qb) z
  | [], pa, pb, qa, qb, z, hv, h1, h2, h3 => by
    simp only [nrm]
    rw [gap_some h2]
    exact ⟨h3, trivial⟩
  | c :: t, pa, pb, qa, qb, z, hv, h1, h2, h3 => by
    obtain ⟨⟨q1, q2, q3, q4, q5, q6, q7, q8, q9, q10⟩, hv2⟩ := hv
    simp only [nrm]
    by_cases q : qa < c.f0
    · rw [if_pos q, gap_some h2]
      refine ⟨h3, ?_⟩
      show apart (nrm t c.f0 c.f2 (c.f0 + c.f1) (c.f2 + c.f3)) (pa + (qa - pa))
      exact nrm_apart n m t _ _ _ _ _ hv2 (by omega) (by omega) (by omega)
    · rw [if_neg q]
      exact nrm_apart n m t _ _ _ _ _ hv2 (by omega) (by omega) h3
theorem nrm_apart0 (n m : Int) (s : List Chg) (hv : validP n m s 0 0) : apart (nrm s 0 0 0 0) (-1) := by
  cases s with
  | nil => show apart (gap 0 0 0 0) (-1); rw [gap_none]; trivial
  | cons c t =>
    obtain ⟨h, hv2⟩ := hv
    rw [nrm_start c t n m h]
    obtain ⟨q1, q2, q3, q4, q5, q6, q7, q8, q9, q10⟩ := h
    exact nrm_apart n m t _ _ _ _ _ hv2 (by omega) (by omega) (by omega)
theorem nrm_id (n m : Int) : ∀ (t : List Chg) (c : Chg), validP n m t (c.f0 + c.f1) (c.f2 + c.f3) → 0 ≤ c.f1 → 0 ≤ c.f3 → (c.f1 ≠ 0 ∨ c.f3 ≠ 0) → apart t (c.f0 + c.f1) → nrm t c.f0 c.f2 (c.f0 + c.f1) (c.f2 + c.f3) = c :: t
  | [], c, hv, h1, h2, h3, h4 => by
    simp only [nrm]
    rw [gap_some (by omega), show c.f0 + c.f1 - c.f0 = c.f1 by omega, show c.f2 + c.f3 - c.f2 = c.f3 by omega]
  | x :: t, c, hv, h1, h2, h3, h4 => by
    obtain ⟨⟨q1, q2, q3, q4, q5, q6, q7, q8, q9, q10⟩, hv2⟩ := hv
    simp only [nrm]
    rw [if_pos h4.1, gap_some (by omega), nrm_id n m t x hv2 q1 q2 q3 h4.2, show c.f0 + c.f1 - c.f0 = c.f1 by omega, show c.f2 + c.f3 - c.f2 = c.f3 by omega]
    rfl
theorem norm_id (n m : Int) (hn : 0 ≤ n ∧ n ≤ 4194304) (hm : 0 ≤ m ∧ m ≤ 4194304) (L : List Chg) (hv : validP n m L 0 0) (h : apart L (-1)) : normS L n m = (L, none) := by
  have h1 : validS L n m = none := by unfold validS; rw [if_neg (by omega), errP_pos hv]
  unfold normS
  rw [h1, if_pos (show (none : Option Int).isNone = true from rfl)]
  cases L with
  | nil => show (gap 0 0 0 0, none) = _; rw [gap_none]
  | cons c t =>
    obtain ⟨hc, hv2⟩ := hv
    rw [nrm_start c t n m hc]
    obtain ⟨q1, q2, q3, q4, q5, q6, q7, q8, q9, q10⟩ := hc
    rw [nrm_id n m t c hv2 q1 q2 q3 h.2]
end Go.Proofs.YtecjoofjiockkaaDoor.Pure
namespace Go.Proofs.YtecjoofjiockkaaDoor.Pure
open Go.RowKit Go.Proofs.YtecjoofjiockkaaDoor.Pp Go.Proofs.YtecjoofjiockkaaDoor.Ext Go.Proofs.YtecjoofjiockkaaDoorW.PrintWords Go.Proofs.YtecjoofjiockkaaDoorW.PrintLast Go.Proofs.YtecjoofjiockkaaDoorW.PrintMore
set_option linter.unusedVariables false
set_option linter.unusedSimpArgs false
theorem rows_text (A B : List ByteArray) (e : Int) : ∀ (G : List Chg) (a : Int), ∀ r ∈ rowsG A B a G e, r.f1 ∈ A ∨ r.f1 ∈ B
  | [], a, r, hr => by
    obtain ⟨s, hs, rfl⟩ := List.mem_map.mp hr
    exact Or.inl (List.mem_of_mem_take (List.mem_of_mem_drop hs))
  | c :: t, a, r, hr => by
    rw [rowsG] at hr
    rcases List.mem_append.mp hr with h | h
    · obtain ⟨s, hs, rfl⟩ := List.mem_map.mp h
      exact Or.inl (List.mem_of_mem_take (List.mem_of_mem_drop hs))
    rcases List.mem_append.mp h with h | h
    · obtain ⟨s, hs, rfl⟩ := List.mem_map.mp h
      exact Or.inl (List.mem_of_mem_take (List.mem_of_mem_drop hs))
    rcases List.mem_append.mp h with h | h
    · obtain ⟨s, hs, rfl⟩ := List.mem_map.mp h
      exact Or.inr (List.mem_of_mem_take (List.mem_of_mem_drop hs))
    exact rows_text A B e t _ r h
theorem rows_len (A B : List ByteArray) (e : Int) (he : e ≤ (A.length : Int)) : ∀ (G : List Chg) (a b : Int), okV (A.length : Int) (B.length : Int) G a b → 0 ≤ a → 0 ≤ b → lastE G a ≤ e → ((rowsG A B a G e).length : Int) ≤ (e - a) + (lastB G b - b)
  | [], a, b, h, ha, hb, hl => by
    have hl' : a ≤ e := hl
    have := cut_length A a e ha hl' he
    rw [rowsG, putL_length]
    show _ ≤ (e - a) + (b - b)
    omega
  | c :: t, a, b, h, ha, hb, hl => by
    obtain ⟨⟨q1, q2, q3, q4, q5, q6, q7, q8, q9, q10⟩, ht⟩ := h
    have l1 := cut_length A a c.f0 ha q4 q5
    have l2 := cut_length A c.f0 (c.f0 + c.f1) (by omega) (by omega) (by omega)
    have l3 := cut_length B c.f2 (c.f2 + c.f3) (by omega) (by omega) (by omega)
    have := rows_len A B e he t _ _ ht (by omega) (by omega) hl
    rw [rowsG, List.length_append, List.length_append, List.length_append, putL_length, putL_length, putL_length]
    show _ ≤ (e - a) + (lastB t (c.f2 + c.f3) - b)
    omega
theorem pok_small {A B : List ByteArray} (hA : A.length + B.length ≤ 1048576) (hsA : ∀ s ∈ A, s.size ≤ 1048576) (hsB : ∀ s ∈ B, s.size ≤ 1048576) {p : Pc} (h : Pok lw A B p) : Small (hk A B p) ∧ ((hk A B p).f5.length : Int) ≤ (p.e - p.st) + (p.eb - p.ns) := by
  obtain ⟨n1, n2, n3, n4, n5, n6, n7, n8⟩ := pok_nums (A := A) (B := B) (by omega) (by omega) h
  have s0 := h.s0
  have b0 := h.b0
  have e1 := h.le
  have e2 := h.en
  have e3 := h.eb
  have hr := rows_len A B p.e h.en p.G p.st p.ns h.ok h.s0 h.b0 h.le
  have hr2 : ((hk A B p).f5.length : Int) ≤ (p.e - p.st) + (p.eb - p.ns) := by
    show ((rowsG A B p.st p.G p.e).length : Int) ≤ _
    unfold Pc.eb; omega
  refine ⟨⟨by omega, fun r hr => ?_, by show (0 : Nat) ≤ _; omega, by rw [n3]; split <;> omega, by rw [n5]; split <;> omega⟩, hr2⟩
  rcases rows_text A B p.e p.G p.st r hr with h | h
  · exact hsA _ h
  · exact hsB _ h
theorem gr_count (c n : Int) : ∀ (t : List Chg) (st : Int) (G : List Chg) (last : Int), (gr c n st G last t).length ≤ t.length + 1
  | [], st, G, last => by rw [gr]; simp
  | x :: t, st, G, last => by
    rw [gr]
    split
    · have := gr_count c n t st (G ++ [x]) (x.f0 + x.f1); rw [List.length_cons]; omega
    · have := gr_count c n t (x.f0 - c) [x] (x.f0 + x.f1); rw [List.length_cons, List.length_cons]; omega
theorem grs_count (c n : Int) (L : List Chg) : (grs c 0 n L).length ≤ L.length := by
  cases L with
  | nil => exact Nat.le_refl _
  | cons x t => exact gr_count c n t _ [x] _
theorem bt_apart {S : List Chg} {A B : List ByteArray} {L : List Chg} (h : Bt S A B L) : apart L (-1) := by
  have hn := h.norm
  unfold normS at hn
  split at hn
  · rename_i hx
    have hv : validS S (A.length : Int) (B.length : Int) = none := by simpa using hx
    rw [← (Prod.mk.inj hn).1]
    exact nrm_apart0 _ _ S (validS_none hv).2.2
  · rename_i hx
    have h5 := (Prod.mk.inj hn).2
    rw [h5] at hx
    exact absurd rfl hx
theorem bt_script {S : List Chg} {A B : List ByteArray} {L : List Chg} (h : Bt S A B L) (c : Int) (hc : 0 ≤ c) : Ch lw A B (grs c 0 (A.length : Int) L) 0 0 ∧ scriptS ((grs c 0 (A.length : Int) L).map (hk A B)) (A.length : Int) (B.length : Int) = (L, none) ∧ L.length ≤ S.length + 1 := by
  have la := h.la
  have lb := h.lb
  obtain ⟨h1, h2, h3, h4⟩ := normS_valid h.norm
  have hap := bt_apart h
  have hch := ch_grs A B c hc L h3 (com_pairs A B h.va h.vb L 0 0 h3 (Int.le_refl _) (Int.le_refl _) (by omega) h.whole)
  refine ⟨hch, ?_, h4⟩
  unfold scriptS
  rw [ch_orderS h.va h.vb la lb _ hch, if_pos (show (none : Option Int).isNone = true from rfl), scr_ch la lb _ 0 0 [] hch (grs_apart c _ L _ hap), List.nil_append, grs_flat]
  unfold endS normI
  rw [if_neg (by omega), norm_id _ _ (by omega) (by omega) L h3 hap]
  rfl
theorem rd_mid (pre : List Hunk) (h : Hunk) (t : List Hunk) : rd_T41 (pre ++ h :: t) (pre.length : Int) = h := by
  rw [rd_hunk, List.getD_eq_getElem?_getD, List.getElem?_append_right (Nat.le_refl _), Nat.sub_self]; rfl
end Go.Proofs.YtecjoofjiockkaaDoor.Pure
namespace Go.Proofs.YtecjoofjiockkaaDoor.Pure
open Go.RowKit Go.Proofs.YtecjoofjiockkaaDoor.Pp Go.Proofs.YtecjoofjiockkaaDoor.Ext Go.Proofs.YtecjoofjiockkaaDoorW.PrintWords Go.Proofs.YtecjoofjiockkaaDoorW.PrintLast Go.Proofs.YtecjoofjiockkaaDoorW.PrintMore
set_option linter.unusedVariables false
set_option linter.unusedSimpArgs false
def turnL : List Row → List Row → List Row → List Row → List Row
  | [], out, x, n => out ++ x ++ n
  | r :: t, out, x, n => if r.f0 = 2 then turnL t out x (n ++ [⟨3, r.f1⟩]) else if r.f0 = 3 then turnL t out (x ++ [⟨2, r.f1⟩]) n else turnL t ((out ++ x ++ n) ++ [r]) [] []
def turnH (h : Hunk) : Hunk := ⟨h.f2, h.f3, h.f0, h.f1, h.f4, turnL h.f5 [] [] []⟩
theorem rev_eq : ∀ (l out x n : List Row), revL l out x n = turnL l out x n
  | [], out, x, n => rfl
  | r :: t, out, x, n => by rw [revL, turnL, rev_eq t, rev_eq t, rev_eq t]
theorem p_turn (h : Hunk) (hR : h.f5.length ≤ 4000000000) : hunks_Reverse.f h.f0 h.f1 h.f2 h.f3 h.f4 h.f5 = some (h.f2, h.f3, h.f0, h.f1, h.f4, turnL h.f5 [] [] []) := by
  unfold hunks_Reverse.f
  rw [if_pos hR, rev_eq]
end Go.Proofs.YtecjoofjiockkaaDoor.Pure
namespace Go.Proofs.YtecjoofjiockkaaDoor.Pure
open Go.RowKit Go.Proofs.YtecjoofjiockkaaDoor.Pp Go.Proofs.YtecjoofjiockkaaDoor.Ext Go.Proofs.YtecjoofjiockkaaDoorW.PrintWords Go.Proofs.YtecjoofjiockkaaDoorW.PrintLast Go.Proofs.YtecjoofjiockkaaDoorW.PrintMore
set_option linter.unusedVariables false
set_option linter.unusedSimpArgs false
def inv (x : Chg) : Chg := ⟨x.f2, x.f3, x.f0, x.f1⟩
def invL (G : List Chg) : List Chg := G.map inv
theorem invL_invL (G : List Chg) : invL (invL G) = G := by unfold invL; rw [List.map_map]; exact List.map_id G
theorem invL_app (G H : List Chg) : invL (G ++ H) = invL G ++ invL H := List.map_append
theorem okC_inv {n m a b : Int} {x : Chg} (h : okC n m a b x) : okC m n b a (inv x) := by
  obtain ⟨q1, q2, q3, q4, q5, q6, q7, q8, q9, q10⟩ := h
  exact ⟨q2, q1, q3.symm, q6, q7, q4, q5, q8.symm, q10, q9⟩
theorem valid_inv (n m : Int) : ∀ (S : List Chg) (a b : Int), validP n m S a b → validP m n (invL S) b a
  | [], a, b, h => Eq.symm h
  | x :: t, a, b, h => ⟨okC_inv h.1, valid_inv n m t _ _ h.2⟩
theorem gap_inv (a b x y : Int) : gap b a y x = invL (gap a b x y) := by
  unfold gap
  by_cases h : a < x ∨ b < y
  · rw [if_pos h, if_pos h.symm]; rfl
  · rw [if_neg h, if_neg (fun hh => h hh.symm)]; rfl
theorem nrm_inv (n m : Int) : ∀ (S : List Chg) (pa pb qa qb : Int), validP n m S qa qb → nrm (invL S) pb pa qb qa = invL (nrm S pa pb qa qb)
  | [], pa, pb, qa, qb, h => gap_inv pa pb qa qb
  | x :: t, pa, pb, qa, qb, h => by
    obtain ⟨⟨q1, q2, q3, q4, q5, q6, q7, q8, q9, q10⟩, ht⟩ := h
    have i1 := nrm_inv n m t x.f0 x.f2 (x.f0 + x.f1) (x.f2 + x.f3) ht
    have i2 := nrm_inv n m t pa pb (x.f0 + x.f1) (x.f2 + x.f3) ht
    show nrm (inv x :: invL t) pb pa qb qa = _
    simp only [nrm]
    by_cases q : qa < x.f0
    · rw [if_pos q, if_pos (show qb < (inv x).f0 by show qb < x.f2; omega), invL_app, ← gap_inv, ← i1]; rfl
    · rw [if_neg q, if_neg (show ¬ qb < (inv x).f0 by show ¬ qb < x.f2; omega), ← i2]; rfl
theorem norm_inv {S L : List Chg} {n m : Int} (h : normS S n m = (L, none)) : normS (invL S) m n = (invL L, none) ∧ validP n m S 0 0 ∧ L = nrm S 0 0 0 0 := by
  unfold normS at h
  split at h
  · rename_i hx
    have hv : validS S n m = none := by simpa using hx
    obtain ⟨h1, h2, h3⟩ := validS_none hv
    have hl := (Prod.mk.inj h).1
    have hv2 := valid_inv n m S 0 0 h3
    have hv3 : validS S n m = none := hv
    unfold validS at hv3
    split at hv3
    · cases hv3
    · rename_i hc
      have e1 : validS (invL S) m n = none := by unfold validS; rw [if_neg (by omega), errP_pos hv2]
      refine ⟨?_, h3, hl.symm⟩
      unfold normS
      rw [e1, if_pos (show (none : Option Int).isNone = true from rfl), nrm_inv n m S 0 0 0 0 h3, hl]
  · rename_i hx
    have h5 := (Prod.mk.inj h).2
    rw [h5] at hx
    exact absurd rfl hx
theorem runP_inv (d : Nat) : ∀ (a b : Int), runP b a d = (runP a b d).map fun p => (⟨p.f1, p.f0⟩ : S37) := by
  induction d with
  | zero => intro a b; rfl
  | succ d ih => intro a b; rw [runP, runP, List.map_cons, ih]
theorem pairs_inv (n m : Int) : ∀ (S : List Chg) (a b : Int), validP n m S a b → pairsL m (invL S) b a = (pairsL n S a b).map fun p => (⟨p.f1, p.f0⟩ : S37)
  | [], a, b, h => by
    have h' : n - a = m - b := h
    show runP b a (m - b).toNat = (runP a b (n - a).toNat).map _
    rw [runP_inv, h']
  | x :: t, a, b, h => by
    obtain ⟨⟨q1, q2, q3, q4, q5, q6, q7, q8, q9, q10⟩, ht⟩ := h
    show runP b a (x.f2 - b).toNat ++ pairsL m (invL t) (x.f2 + x.f3) (x.f0 + x.f1) = _
    rw [pairs_inv n m t _ _ ht, pairsL, List.map_append, runP_inv, q8]
theorem bt_inv {S : List Chg} {A B : List ByteArray} {L : List Chg} (h : Bt S A B L) : Bt (invL S) B A (invL L) := by
  obtain ⟨v1, v2, v3, v4⟩ := normS_valid h.norm
  refine ⟨h.vb, h.va, h.lb, h.la, (norm_inv h.norm).1, fun p hp => ?_⟩
  rw [pairs_inv _ _ L 0 0 v3] at hp
  obtain ⟨q, hq, rfl⟩ := List.mem_map.mp hp
  exact (h.whole q hq).symm
theorem invert_at (S : List Chg) (hS : S.length ≤ 1048576) (d : Nat) : ∀ (i : Nat) (x : List Chg), i + d = S.length → x.length = i → Ev (fun k => edits_Invert.l0 k x S (S.length : Int) (i : Int)) (x ++ invL (S.drop i)) := by
  induction d with
  | zero =>
    intro i x h hx
    rw [List.drop_of_length_le (by omega)]
    exact Ev.step (f := fun _ => some x) (fun k => by rw [edits_Invert.l0, if_neg (by omega)]) (by unfold invL; rw [List.map_nil, List.append_nil]; exact Ev.pure _)
  | succ d ih =>
    intro i x h hx
    have hi : i < S.length := by omega
    have w1 : wrap64 ((i : Int) + 1) = ((i + 1 : Nat) : Int) := w_add i 1 (by omega)
    have hd := drop53 S i hi
    have h2 := ih (i + 1) (x ++ [inv (rd_T53 S (i : Int))]) (by omega) (by simp; omega)
    rw [hd, show x ++ invL (rd_T53 S (i : Int) :: S.drop (i + 1)) = (x ++ [inv (rd_T53 S (i : Int))]) ++ invL (S.drop (i + 1)) by unfold invL; simp]
    exact Ev.step (fun k => by rw [edits_Invert.l0, if_pos (by omega), if_pos (by omega), if_pos (by omega), if_pos (by omega), w1]; rfl) h2
theorem invert_is (S : List Chg) (hS : S.length ≤ 1048576) : Ev (fun k => edits_Invert.f k S) (invL S) := by
  have := invert_at S hS S.length 0 [] (by omega) rfl
  rw [List.drop_zero, List.nil_append] at this
  exact this
def invP (p : Pc) : Pc := ⟨p.ns, invL p.G, p.eb⟩
theorem lastE_inv : ∀ (G : List Chg) (z : Int), lastE (invL G) z = lastB G z
  | [], z => rfl
  | x :: t, z => lastE_inv t _
theorem gr_inv (n m c : Int) (hc : 0 ≤ c) : ∀ (t : List Chg) (st ns : Int) (G : List Chg), G ≠ [] → nsOf st G = ns → validP n m t (lastE G st) (lastB G ns) → gr c m ns (invL G) (lastB G ns) (invL t) = (gr c n st G (lastE G st) t).map invP
  | [], st, ns, G, hG, hns, hv => by
    subst hns
    have hv' : n - lastE G st = m - lastB G (nsOf st G) := hv
    rw [gr]
    show gr c m (nsOf st G) (invL G) (lastB G (nsOf st G)) [] = _
    rw [gr]
    show [(⟨nsOf st G, invL G, if lastB G (nsOf st G) + c < m then lastB G (nsOf st G) + c else m⟩ : Pc)] = [⟨nsOf st G, invL G, lastB G (nsOf st G) + ((if lastE G st + c < n then lastE G st + c else n) - lastE G st)⟩]
    congr 2
    by_cases q : lastE G st + c < n
    · rw [if_pos q, if_pos (by omega)]; omega
    · rw [if_neg q, if_neg (by omega)]; omega
  | x :: t, st, ns, G, hG, hns, hv => by
    obtain ⟨⟨q1, q2, q3, q4, q5, q6, q7, q8, q9, q10⟩, ht⟩ := hv
    rw [gr]
    show gr c m ns (invL G) (lastB G ns) (inv x :: invL t) = _
    rw [gr]
    by_cases q : x.f0 - lastE G st ≤ 2 * c
    · rw [if_pos q, if_pos (show (inv x).f0 - lastB G ns ≤ 2 * c by show x.f2 - lastB G ns ≤ 2 * c; omega)]
      have := gr_inv n m c hc t st ns (G ++ [x]) (by simp) (by rw [ns_snoc st G hG]; exact hns) (by rw [lastE_app, lastB_app]; exact ht)
      rw [lastE_app, lastB_app, invL_app] at this
      exact this
    · rw [if_neg q, if_neg (show ¬ (inv x).f0 - lastB G ns ≤ 2 * c by show ¬ x.f2 - lastB G ns ≤ 2 * c; omega)]
      have := gr_inv n m c hc t (x.f0 - c) (x.f2 - c) [x] (by simp) (by show x.f2 - (x.f0 - (x.f0 - c)) = _; omega) ht
      subst hns
      have e : invP ⟨st, G, lastE G st + c⟩ = ⟨nsOf st G, invL G, lastB G (nsOf st G) + c⟩ := by
        show (⟨nsOf st G, invL G, lastB G (nsOf st G) + (lastE G st + c - lastE G st)⟩ : Pc) = _
        rw [show lastE G st + c - lastE G st = c by omega]
      rw [List.map_cons, e]
      exact congrArg _ this
theorem grs_inv (n m c : Int) (hc : 0 ≤ c) (L : List Chg) (hv : validP n m L 0 0) : grs c 0 m (invL L) = (grs c 0 n L).map invP := by
  cases L with
  | nil => rfl
  | cons x t =>
    obtain ⟨⟨q1, q2, q3, q4, q5, q6, q7, q8, q9, q10⟩, ht⟩ := hv
    have e : x.f0 = x.f2 := by omega
    have e2 : (if x.f2 - c < 0 then 0 else x.f2 - c) = (if x.f0 - c < 0 then 0 else x.f0 - c) := by rw [e]
    obtain ⟨s, hs⟩ : ∃ s, s = (if x.f0 - c < 0 then 0 else x.f0 - c) := ⟨_, rfl⟩
    show gr c m (if x.f2 - c < 0 then 0 else x.f2 - c) (invL [x]) (x.f2 + x.f3) (invL t) = (gr c n (if x.f0 - c < 0 then 0 else x.f0 - c) [x] (x.f0 + x.f1) t).map invP
    rw [e2, ← hs]
    exact gr_inv n m c hc t s s [x] (by simp) (by show x.f2 - (x.f0 - s) = s; omega) ht
theorem turn_put1 (rest : List Row) : ∀ (T : List ByteArray) (out x n : List Row), T ≠ [] → turnL (putL 1 T ++ rest) out x n = turnL rest ((out ++ x ++ n) ++ putL 1 T) [] []
  | [], out, x, n, h => absurd rfl h
  | s :: T, out, x, n, h => by
    show turnL ((⟨1, s⟩ : Row) :: (putL 1 T ++ rest)) out x n = _
    rw [turnL, if_neg (show ¬ (1 : Int) = 2 by decide), if_neg (show ¬ (1 : Int) = 3 by decide)]
    cases T with
    | nil => rfl
    | cons r T =>
      rw [turn_put1 rest (r :: T) _ [] [] (by simp)]
      congr 1
      show ((((out ++ x ++ n) ++ [(⟨1, s⟩ : Row)]) ++ []) ++ []) ++ putL 1 (r :: T) = (out ++ x ++ n) ++ ((⟨1, s⟩ : Row) :: putL 1 (r :: T))
      simp
theorem turn_put2 (rest out x : List Row) : ∀ (T : List ByteArray) (n : List Row), turnL (putL 2 T ++ rest) out x n = turnL rest out x (n ++ putL 3 T)
  | [], n => by show turnL rest out x n = turnL rest out x (n ++ []); rw [List.append_nil]
  | s :: T, n => by
    show turnL ((⟨2, s⟩ : Row) :: (putL 2 T ++ rest)) out x n = _
    rw [turnL, if_pos rfl, turn_put2 rest out x T]
    show turnL rest out x ((n ++ [(⟨3, s⟩ : Row)]) ++ putL 3 T) = turnL rest out x (n ++ ((⟨3, s⟩ : Row) :: putL 3 T))
    rw [List.append_assoc]; rfl
theorem turn_put3 (rest out n : List Row) : ∀ (T : List ByteArray) (x : List Row), turnL (putL 3 T ++ rest) out x n = turnL rest out (x ++ putL 2 T) n
  | [], x => by show turnL rest out x n = turnL rest out (x ++ []) n; rw [List.append_nil]
  | s :: T, x => by
    show turnL ((⟨3, s⟩ : Row) :: (putL 3 T ++ rest)) out x n = _
    rw [turnL, if_neg (show ¬ (3 : Int) = 2 by decide), if_pos rfl, turn_put3 rest out n T]
    show turnL rest out ((x ++ [(⟨2, s⟩ : Row)]) ++ putL 2 T) n = turnL rest out (x ++ ((⟨2, s⟩ : Row) :: putL 2 T)) n
    rw [List.append_assoc]; rfl
theorem alike_id {A B : List ByteArray} {a b d : Int} (h : alike id A B a b d) (ha : 0 ≤ a) (hb : 0 ≤ b) (hd : 0 ≤ d) (h1 : a + d ≤ (A.length : Int)) (h2 : b + d ≤ (B.length : Int)) : cut A a (a + d) = cut B b (b + d) := by
  have := alike_cut h ha hb hd h1 h2
  rwa [List.map_id, List.map_id] at this
theorem turn_rows (A B : List ByteArray) (e : Int) (he : e ≤ (A.length : Int)) : ∀ (G : List Chg) (a b : Int) (out x n : List Row), okV (A.length : Int) (B.length : Int) G a b → 0 ≤ a → 0 ≤ b → lastE G a ≤ e → lastB G b + (e - lastE G a) ≤ (B.length : Int) → comW id A B e G a b → apartG G → ((x = [] ∧ n = []) ∨ apart G a) →
    turnL (rowsG A B a G e) out x n = out ++ x ++ n ++ rowsG B A b (invL G) (lastB G b + (e - lastE G a))
  | [], a, b, out, x, n, hv, ha, hb, hl, hm, hcm, hg, hx => by
    have hl' : a ≤ e := hl
    have hm' : b + (e - a) ≤ (B.length : Int) := hm
    have hc := alike_id (show alike id A B a b (e - a) from hcm) ha hb (by omega) (by omega) hm'
    rw [show a + (e - a) = e by omega] at hc
    show turnL (putL 1 (cut A a e)) out x n = out ++ x ++ n ++ putL 1 (cut B b (b + (e - a)))
    rw [← hc]
    by_cases h : cut A a e = []
    · rw [h]; show out ++ x ++ n = out ++ x ++ n ++ []; rw [List.append_nil]
    · have := turn_put1 [] (cut A a e) out x n h
      rw [List.append_nil] at this
      rw [this]
      show (out ++ x ++ n ++ putL 1 (cut A a e)) ++ [] ++ [] = _
      rw [List.append_nil, List.append_nil]
  | c :: t, a, b, out, x, n, hv, ha, hb, hl, hm, hcm, hg, hx => by
    obtain ⟨⟨q1, q2, q3, q4, q5, q6, q7, q8, q9, q10⟩, ht⟩ := hv
    obtain ⟨hc1, hc2⟩ := hcm
    have hc := alike_id hc1 ha hb (by omega) (by omega) (by omega)
    rw [show a + (c.f0 - a) = c.f0 by omega, show b + (c.f0 - a) = c.f2 by omega] at hc
    have hg2 : apartG t := by
      have hg' : apart t (c.f0 + c.f1) := hg
      cases t with
      | nil => trivial
      | cons y t => exact hg'.2
    have hin : ∀ o : List Row, turnL (chgR A B c ++ rowsG A B (c.f0 + c.f1) t e) o [] [] = o ++ (chgR B A (inv c) ++ rowsG B A (c.f2 + c.f3) (invL t) (lastB t (c.f2 + c.f3) + (e - lastE t (c.f0 + c.f1)))) := by
      intro o
      unfold chgR
      rw [List.append_assoc, turn_put2, turn_put3, turn_rows A B e he t _ _ o _ _ ht (by omega) (by omega) hl hm hc2 hg2 (Or.inr hg)]
      show o ++ ([] ++ putL 2 (cut B c.f2 (c.f2 + c.f3))) ++ ([] ++ putL 3 (cut A c.f0 (c.f0 + c.f1))) ++ _ = o ++ ((putL 2 (cut B c.f2 (c.f2 + c.f3)) ++ putL 3 (cut A c.f0 (c.f0 + c.f1))) ++ _)
      simp only [List.nil_append, List.append_assoc]
    have hrow : rowsG B A b (invL (c :: t)) (lastB (c :: t) b + (e - lastE (c :: t) a)) = putL 1 (cut B b c.f2) ++ (chgR B A (inv c) ++ rowsG B A (c.f2 + c.f3) (invL t) (lastB t (c.f2 + c.f3) + (e - lastE t (c.f0 + c.f1)))) := by
      show rowsG B A b (inv c :: invL t) _ = _
      rw [rowsG_cons]; rfl
    rw [hrow, rowsG_cons, ← hc]
    by_cases h : cut A a c.f0 = []
    · have l1 := cut_length A a c.f0 ha q4 q5
      rw [h] at l1 ⊢
      simp at l1
      have hxn : x = [] ∧ n = [] := by
        rcases hx with hx | hx
        · exact hx
        · have := hx.1; omega
      obtain ⟨rfl, rfl⟩ := hxn
      show turnL (chgR A B c ++ _) out [] [] = out ++ [] ++ [] ++ ([] ++ _)
      rw [hin out, List.append_nil, List.append_nil, List.nil_append]
    · rw [turn_put1 _ (cut A a c.f0) out x n h, hin]
      simp only [List.append_assoc]
theorem hk_turn {A B : List ByteArray} {β : Type} {f : ByteArray → β} (hA : A.length ≤ 4194304) (hB : B.length ≤ 4194304) {p : Pc} (hp : Pok id A B p) (hq : Pok f B A (invP p)) (hap : apartG p.G) : turnH (hk A B p) = hk B A (invP p) := by
  obtain ⟨n1, n2, n3, n4, n5, n6, n7, n8⟩ := pok_nums hA hB hp
  obtain ⟨m1, m2, m3, m4, m5, m6, m7, m8⟩ := pok_nums hB hA hq
  have hr := turn_rows A B p.e hp.en p.G p.st p.ns [] [] [] hp.ok hp.s0 hp.b0 hp.le hp.eb hp.com hap (Or.inl ⟨rfl, rfl⟩)
  rw [List.append_nil, List.append_nil, List.nil_append] at hr
  have hr5 : turnL (hk A B p).f5 [] [] [] = (hk B A (invP p)).f5 := hr
  have hst : (invP p).ns = p.st := by
    have ho := hp.ok
    show nsOf p.ns (invL p.G) = p.st
    cases hG : p.G with
    | nil => exact absurd hG hp.ne
    | cons x t =>
      show x.f0 - (x.f2 - p.ns) = p.st
      rw [hG] at ho
      obtain ⟨⟨q1, q2, q3, q4, q5, q6, q7, q8, q9, q10⟩, _⟩ := ho
      omega
  have heb : (invP p).eb = p.e := by
    unfold Pc.eb
    rw [hst]
    show lastB (invL p.G) p.st + (p.eb - lastE (invL p.G) p.ns) = p.e
    have e1 : lastB (invL p.G) p.st = lastE p.G p.st := by
      have := lastE_inv (invL p.G) p.st
      rw [invL_invL] at this
      exact this.symm
    rw [e1, lastE_inv]
    unfold Pc.eb
    omega
  have e0 : (invP p).e = p.eb := rfl
  have e1 : (invP p).st = p.ns := rfl
  rw [e0, e1] at m3 m4
  rw [hst, heb] at m5 m6
  show (⟨(hk A B p).f2, (hk A B p).f3, (hk A B p).f0, (hk A B p).f1, (hk A B p).f4, turnL (hk A B p).f5 [] [] []⟩ : Hunk) = _
  rw [n3, n4, n5, n6, hr5, ← m3, ← m4, ← m5, ← m6]
  rfl
theorem invP_invP {A B : List ByteArray} {p : Pc} (hp : Pok id A B p) : invP (invP p) = p := by
  have ho := hp.ok
  have hst : nsOf p.ns (invL p.G) = p.st := by
    cases hG : p.G with
    | nil => exact absurd hG hp.ne
    | cons x t =>
      show x.f0 - (x.f2 - p.ns) = p.st
      rw [hG] at ho
      obtain ⟨⟨q1, q2, q3, q4, q5, q6, q7, q8, q9, q10⟩, _⟩ := ho
      omega
  have e1 : lastB (invL p.G) p.st = lastE p.G p.st := by
    have := lastE_inv (invL p.G) p.st
    rw [invL_invL] at this
    exact this.symm
  have heb : lastB (invL p.G) (nsOf p.ns (invL p.G)) + (p.eb - lastE (invL p.G) p.ns) = p.e := by
    rw [hst, e1, lastE_inv]
    unfold Pc.eb
    omega
  show (⟨nsOf p.ns (invL p.G), invL (invL p.G), lastB (invL p.G) (nsOf p.ns (invL p.G)) + (p.eb - lastE (invL p.G) p.ns)⟩ : Pc) = p
  rw [heb, hst, invL_invL]
end Go.Proofs.YtecjoofjiockkaaDoor.Pure
namespace Go.Proofs.YtecjoofjiockkaaDoor.Pure
open Go.RowKit Go.Proofs.YtecjoofjiockkaaDoor.Pp Go.Proofs.YtecjoofjiockkaaDoor.Ext Go.Proofs.YtecjoofjiockkaaDoorW.PrintWords Go.Proofs.YtecjoofjiockkaaDoorW.PrintLast Go.Proofs.YtecjoofjiockkaaDoorW.PrintMore
set_option linter.unusedVariables false
set_option linter.unusedSimpArgs false
theorem id_runs (A B : List ByteArray) (d : Nat) : ∀ (a b : Int), (∀ p ∈ runP a b d, rdOf ByteArray.empty A p.f0 = rdOf ByteArray.empty B p.f1) → alike id A B a b (d : Int) := by
  induction d with
  | zero => intro a b _; exact alike_nil _ _ _ _ _ _ (by omega)
  | succ d ih =>
    intro a b h i i0 i1
    by_cases hi : i = 0
    · subst hi
      have h3 := h ⟨a, b⟩ (by rw [runP]; exact List.mem_cons_self)
      rw [Int.add_zero, Int.add_zero]
      exact h3
    · have := ih (a + 1) (b + 1) (fun p hp => h p (by rw [runP]; exact List.mem_cons_of_mem _ hp)) (i - 1) (by omega) (by omega)
      rw [show a + 1 + (i - 1) = a + i by omega, show b + 1 + (i - 1) = b + i by omega] at this
      exact this
theorem id_pairs (A B : List ByteArray) (n m : Int) : ∀ (L : List Chg) (a b : Int), validP n m L a b → a ≤ n → (∀ p ∈ pairsL n L a b, rdOf ByteArray.empty A p.f0 = rdOf ByteArray.empty B p.f1) → comW id A B n L a b
  | [], a, b, hv, hn, h => by
    have := id_runs A B (n - a).toNat a b h
    rw [show (((n - a).toNat : Nat) : Int) = n - a by omega] at this
    exact this
  | c :: t, a, b, hv, hn, h => by
    obtain ⟨⟨q1, q2, q3, q4, q5, q6, q7, q8, q9, q10⟩, hvt⟩ := hv
    have := id_runs A B (c.f0 - a).toNat a b (fun p hp => h p (by rw [pairsL]; exact List.mem_append_left _ hp))
    rw [show (((c.f0 - a).toNat : Nat) : Int) = c.f0 - a by omega] at this
    exact ⟨this, id_pairs A B n m t _ _ hvt (by omega) (fun p hp => h p (by rw [pairsL]; exact List.mem_append_right _ hp))⟩
theorem com_nrm {β : Type} (f : ByteArray → β) (A B : List ByteArray) (n m : Int) : ∀ (s : List Chg) (pa pb qa qb a b : Int), validP n m s qa qb → pa ≤ qa → pb ≤ qb → (pa < qa ∨ pb < qb) → alike f A B a b (pa - a) → comW f A B n s qa qb → comW f A B n (nrm s pa pb qa qb) a b
  | [], pa, pb, qa, qb, a, b, hv, h1, h2, h3, h4, h5 => by
    simp only [nrm]
    rw [gap_some h3]
    refine ⟨h4, ?_⟩
    show alike f A B (pa + (qa - pa)) (pb + (qb - pb)) (n - (pa + (qa - pa)))
    rw [show pa + (qa - pa) = qa by omega, show pb + (qb - pb) = qb by omega]
    exact h5
  | c :: t, pa, pb, qa, qb, a, b, hv, h1, h2, h3, h4, h5 => by
    obtain ⟨⟨q1, q2, q3, q4, q5, q6, q7, q8, q9, q10⟩, hv2⟩ := hv
    simp only [nrm]
    by_cases q : qa < c.f0
    · rw [if_pos q, gap_some h3]
      refine ⟨h4, ?_⟩
      show comW f A B n (nrm t c.f0 c.f2 (c.f0 + c.f1) (c.f2 + c.f3)) (pa + (qa - pa)) (pb + (qb - pb))
      rw [show pa + (qa - pa) = qa by omega, show pb + (qb - pb) = qb by omega]
      exact com_nrm f A B n m t _ _ _ _ _ _ hv2 (by omega) (by omega) (by omega) h5.1 h5.2
    · rw [if_neg q]
      exact com_nrm f A B n m t _ _ _ _ _ _ hv2 (by omega) (by omega) (by omega) h4 h5.2
theorem com_nrm0 {β : Type} (f : ByteArray → β) (A B : List ByteArray) (n m : Int) (s : List Chg) (hv : validP n m s 0 0) (h : comW f A B n s 0 0) : comW f A B n (nrm s 0 0 0 0) 0 0 := by
  cases s with
  | nil => show comW f A B n (gap 0 0 0 0) 0 0; rw [gap_none]; exact h
  | cons c t =>
    obtain ⟨hc, hv2⟩ := hv
    rw [nrm_start c t n m hc]
    obtain ⟨q1, q2, q3, q4, q5, q6, q7, q8, q9, q10⟩ := hc
    exact com_nrm f A B n m t _ _ _ _ _ _ hv2 (by omega) (by omega) (by omega) (by have := h.1; rw [Int.sub_zero] at this ⊢; exact this) h.2
theorem alike_symm {A B : List ByteArray} {a b d : Int} (h : alike id A B a b d) : alike id B A b a d := fun i h0 h1 => (h i h0 h1).symm
theorem com_inv (A B : List ByteArray) (n m : Int) : ∀ (s : List Chg) (a b : Int), validP n m s a b → comW id A B n s a b → comW id B A m (invL s) b a
  | [], a, b, hv, h => by
    have hv' : n - a = m - b := hv
    have := alike_symm (show alike id A B a b (n - a) from h)
    rw [hv'] at this
    exact this
  | c :: t, a, b, hv, h => by
    obtain ⟨⟨q1, q2, q3, q4, q5, q6, q7, q8, q9, q10⟩, hv2⟩ := hv
    have := alike_symm h.1
    rw [q8] at this
    exact ⟨this, com_inv A B n m t _ _ hv2 h.2⟩
theorem rev_is (h h' : Hunk) (e : turnH h = h') (hR : h.f5.length ≤ 4000000000) : hunks_Reverse.f h.f0 h.f1 h.f2 h.f3 h.f4 h.f5 = some (h'.f0, h'.f1, h'.f2, h'.f3, h'.f4, h'.f5) := by
  subst e; exact p_turn h hR
theorem tn_step (l m : List Hunk) (S : List Chg) (A B : List ByteArray) (c : Int) (i : Nat) (hi : i < l.length) (hi2 : i < m.length) (hlm : l.length ≤ 1048576) (h h' : Hunk) (hrd : rd_T41 l (i : Int) = h) (hrd2 : rd_T41 m (i : Int) = h') (e1 : turnH h = h') (e2 : turnH h' = h)
    (hr : h.f5.length ≤ 1000000000) (hr2 : h'.f5.length ≤ 1000000000) (hB : Ev (fun k => selvageref01_Valid.f k B) true) (h3 : ((newT h.f5).length : Int) = h.f3) (ih : Ev (fun k => selvagelaw10_HunksTurned.l1 k l m ((i + 1 : Nat) : Int) S A B c) true) :
    Ev (fun k => selvagelaw10_HunksTurned.l1 k l m (i : Int) S A B c) true := by
  have w1 : wrap64 ((i : Int) + 1) = ((i + 1 : Nat) : Int) := w_add i 1 (by omega)
  have c0 : (0 : Int) ≤ (i : Int) := by omega
  have c1 : (i : Int) < (l.length : Int) := by omega
  have c2 : (i : Int) < (m.length : Int) := by omega
  have r1 := rev_is h h' e1 (by omega)
  have r2 := rev_is h' h e2 (by omega)
  have hs := sides_at h.f0 h.f1 h.f2 h.f3 h.f4 h.f5 hr
  have hj : Ev (fun k => selvagelaw10_HunksTurned.j3 k l m (i : Int) (!true) S A B c) true := by
    refine Ev.step (fun k => by rw [selvagelaw10_HunksTurned.j3, if_neg (by simp), if_pos c0, if_pos c1, hrd]) (Ev.bind hs ?_)
    exact Ev.bind hB (Ev.same (fun k => by rw [if_pos rfl, if_pos h3, w1]) ih)
  refine Ev.step (fun k => by rw [selvagelaw10_HunksTurned.l1, if_pos c1, if_pos c0, hrd, r1, Option.bind_some, if_pos c2, hrd2]) (Ev.bind (same_at h' (by omega)) ?_)
  refine Ev.same (fun k => by rw [if_pos rfl, Option.bind_some, r2, Option.bind_some]) (Ev.bind (same_at h (by omega)) hj)
theorem rd_two (A B : List ByteArray) (ps pre qs : List Pc) (p : Pc) (h : ps = pre ++ p :: qs) : rd_T41 (ps.map (hk A B)) (pre.length : Int) = hk A B p := by
  rw [h, List.map_append, List.map_cons]
  have := rd_mid (pre.map (hk A B)) (hk A B p) (qs.map (hk A B))
  rw [List.length_map] at this
  exact this
theorem tn_loop {S : List Chg} {A B : List ByteArray} {L : List Chg} (hb : Bt S A B L) (hA : A.length + B.length ≤ 1048576) (hsA : ∀ s ∈ A, s.size ≤ 1048576) (hsB : ∀ s ∈ B, s.size ≤ 1048576) (c : Int) (ps : List Pc) (hlen : ps.length ≤ 1048576) (hch : Ch id A B ps 0 0) (hci : Ch id B A (ps.map invP) 0 0) (hl : Ch lw A B ps 0 0) (hli : Ch lw B A (ps.map invP) 0 0) (hap : ∀ p ∈ ps, apartG p.G) (hap2 : ∀ p ∈ ps.map invP, apartG p.G) :
    ∀ (qs pre : List Pc), ps = pre ++ qs → Ev (fun k => selvagelaw10_HunksTurned.l1 k (ps.map (hk A B)) ((ps.map invP).map (hk B A)) (pre.length : Int) S A B c) true
  | [], pre, h => by
    have hpl : pre.length = ps.length := by rw [h, List.append_nil]
    have c1 : ¬ (pre.length : Int) < ((ps.map (hk A B)).length : Int) := by rw [List.length_map]; omega
    exact Ev.step (fun k => by rw [selvagelaw10_HunksTurned.l1, if_neg c1]) (Ev.bind ev_works (Ev.pure _))
  | p :: qs, pre, h => by
    have hmem : p ∈ ps := by rw [h]; exact List.mem_append_right _ List.mem_cons_self
    have hmi : invP p ∈ ps.map invP := List.mem_map_of_mem hmem
    have hp := ch_all _ _ _ hch p hmem
    have hq := ch_all _ _ _ hci (invP p) hmi
    have hp2 := ch_all _ _ _ hl p hmem
    have hq2 := ch_all _ _ _ hli (invP p) hmi
    have s1 := (pok_small hA hsA hsB hp2).1
    have s2 := (pok_small (by omega) hsB hsA hq2).1
    obtain ⟨n1, n2, n3, n4, n5, n6, n7, n8⟩ := pok_nums hb.la hb.lb hp
    have t1 := hk_turn hb.la hb.lb hp hq (hap p hmem)
    have hpp := invP_invP hp
    have hq3 : Pok id A B (invP (invP p)) := by rw [hpp]; exact hp
    have t2 := hk_turn hb.lb hb.la hq hq3 (hap2 _ hmi)
    rw [hpp] at t2
    have ih := tn_loop hb hA hsA hsB c ps hlen hch hci hl hli hap hap2 qs (pre ++ [p]) (by rw [h]; simp)
    rw [List.length_append, List.length_singleton] at ih
    have hl2 : ps.length = pre.length + (qs.length + 1) := by rw [h]; simp
    have hr := s1.rows
    have hr2 := s2.rows
    have hv := r_valid B (by omega) (fun s hs => by have := hsB s hs; omega)
    rw [hb.vb] at hv
    have hrd2 := rd_two B A (ps.map invP) (pre.map invP) (qs.map invP) (invP p) (by rw [h]; simp)
    rw [List.length_map] at hrd2
    exact tn_step _ _ S A B c pre.length (by rw [List.length_map]; omega) (by rw [List.length_map, List.length_map]; omega) (by rw [List.length_map]; exact hlen) (hk A B p) (hk B A (invP p)) (rd_two A B ps pre qs p h) hrd2 t1 t2 (by omega) (by omega) hv (by rw [newT_length, n2, n6]) ih
theorem tn_pairs (l : List Hunk) (S : List Chg) (A B : List ByteArray) (c : Int) (P : List S37) (hP : P.length ≤ 4000000000) (ht : (∀ p ∈ P, rdOf ByteArray.empty A p.f0 = rdOf ByteArray.empty B p.f1) → Ev (fun k => selvagelaw10_HunksTurned.l0 k l P (P.length : Int) S A B c) true) (d : Nat) :
    ∀ (i : Nat) (a b : Int), i + d = P.length → inO (A.length : Int) (B.length : Int) (P.drop i) a b → 0 ≤ a → 0 ≤ b → (∀ p ∈ P.take i, rdOf ByteArray.empty A p.f0 = rdOf ByteArray.empty B p.f1) → Ev (fun k => selvagelaw10_HunksTurned.l0 k l P (i : Int) S A B c) true := by
  induction d with
  | zero =>
    intro i a b h hin ha hb hq
    obtain rfl : i = P.length := by omega
    rw [List.take_length] at hq
    exact ht hq
  | succ d ih =>
    intro i a b h hin ha hb hq
    have hi : i < P.length := by omega
    obtain ⟨p, hp⟩ : ∃ p, p = rd_T37 P (i : Int) := ⟨_, rfl⟩
    have hdr : P.drop i = p :: P.drop (i + 1) := by rw [hp]; exact drop37 P i hi
    rw [hdr] at hin
    obtain ⟨q1, q2, q3, q4, q5⟩ := hin
    have c1 : (i : Int) < (P.length : Int) := by omega
    have c0 : (0 : Int) ≤ (i : Int) := by omega
    have w1 : wrap64 ((i : Int) + 1) = ((i + 1 : Nat) : Int) := w_add i 1 (by omega)
    have b1 : 0 ≤ p.f0 := by omega
    have b2 : 0 ≤ p.f1 := by omega
    by_cases hw : (rdOf ByteArray.empty A p.f0).toList = (rdOf ByteArray.empty B p.f1).toList
    · have htk : P.take (i + 1) = P.take i ++ [p] := by
        have h1 := List.take_append_drop i P
        rw [hdr] at h1
        have h2 : (P.take i ++ p :: P.drop (i + 1)).take (i + 1) = P.take i ++ [p] := by
          have hl : (P.take i).length = i := by rw [List.length_take]; omega
          rw [List.take_append, hl, List.take_of_length_le (by omega), show i + 1 - i = 1 by omega]
          rfl
        rwa [h1] at h2
      refine Ev.step (fun k => by rw [selvagelaw10_HunksTurned.l0, if_pos c1, if_pos c0, ← hp, if_pos b1, if_pos q3, if_pos b2, if_pos q4, if_pos hw, w1]) (ih (i + 1) _ _ (by omega) q5 (by omega) (by omega) (fun r hr => ?_))
      rw [htk] at hr
      rcases List.mem_append.mp hr with hr | hr
      · exact hq r hr
      · obtain rfl := List.mem_singleton.mp hr
        exact (toList_eq_iff _ _).mp hw
    · exact Ev.step (fun k => by rw [selvagelaw10_HunksTurned.l0, if_pos c1, if_pos c0, ← hp, if_pos b1, if_pos q3, if_pos b2, if_pos q4, if_neg hw]) (Ev.bind ev_works (Ev.pure _))
theorem turned_law (S : List Chg) (A B : List ByteArray) (c : Int) (hS : S.length + 1 ≤ 1048576) (hA : A.length + B.length ≤ 1048576) (hsA : ∀ s ∈ A, s.size ≤ 1048576) (hsB : ∀ s ∈ B, s.size ≤ 1048576) :
    Ev (fun k => selvagelaw10_HunksTurned.f k S A B c) true := by
  have e1 : selvagelaw10_changes.f S = some S := by unfold selvagelaw10_changes.f; rw [if_pos (by simp; omega), List.nil_append]
  have e2 : selvagelaw10_texts.f A = some A := by unfold selvagelaw10_texts.f; rw [if_pos (by simp; omega), List.nil_append]
  have e3 : selvagelaw10_texts.f B = some B := by unfold selvagelaw10_texts.f; rw [if_pos (by simp; omega), List.nil_append]
  have tA : ∀ s ∈ A, s.size ≤ 4000000000 := fun s hs => by have := hsA s hs; omega
  have tB : ∀ s ∈ B, s.size ≤ 4000000000 := fun s hs => by have := hsB s hs; omega
  have hn : (none : Option Int).isNone = true := rfl
  refine Ev.same (fun k => by unfold selvagelaw10_HunksTurned.f; rw [e1, Option.bind_some, e2, Option.bind_some, e3, Option.bind_some]) ?_
  rcases build_is S A B c (by omega) (by omega) (by omega) tA tB with ⟨_, e, h1⟩ | ⟨L, hb, c0, c1, h1⟩
  · exact Ev.bind h1 (Ev.same (fun k => if_neg (by simp)) (Ev.bind ev_works (Ev.pure _)))
  · obtain ⟨hch, hsc, hln⟩ := bt_script hb c c0
    have hbi := bt_inv hb
    obtain ⟨hci, _, _⟩ := bt_script hbi c c0
    have n1 := grs_count c (A.length : Int) L
    obtain ⟨v1, v2, v3, v4⟩ := normS_valid hb.norm
    obtain ⟨_, hvS, hLn⟩ := norm_inv hb.norm
    have hap := bt_apart hb
    have hapi := bt_apart hbi
    have hgi := grs_inv _ _ c c0 L v3
    have hgp := grs_apart c (A.length : Int) L _ hap
    have hgp2 := grs_apart c (B.length : Int) (invL L) _ hapi
    rw [hgi] at hci hgp2
    have hbin : ∃ L', Bt (invL S) B A L' ∧ 0 ≤ c ∧ c ≤ 2147483647 := ⟨_, hbi, c0, c1⟩
    have hpr := rpairs_at S (by omega) (A.length : Int) (B.length : Int) (by omega) (by omega) v1 v2 hvS
    have hpl := pairsL_length (A.length : Int) (B.length : Int) S 0 0 hvS (by omega)
    have hio := inO_pairs (A.length : Int) (B.length : Int) S 0 0 hvS (by omega) (by omega)
    refine Ev.bind h1 (Ev.same (fun k => if_pos hn) (Ev.bind hpr ?_))
    refine tn_pairs _ S A B c (pairsL (A.length : Int) S 0 0) (by omega) (fun heq => ?_) (pairsL (A.length : Int) S 0 0).length 0 0 0 (by omega) (by rw [List.drop_zero]; exact hio) (Int.le_refl _) (Int.le_refl _) (fun p hp => by cases hp)
    have hcS := id_pairs A B _ _ S 0 0 hvS (by omega) heq
    have hcL := com_nrm0 id A B _ _ S hvS hcS
    rw [← hLn] at hcL
    have hid := ch_grs A B c c0 L v3 hcL
    have hidi := ch_grs B A c c0 (invL L) (valid_inv _ _ L 0 0 v3) (com_inv A B _ _ L 0 0 v3 hcL)
    rw [hgi] at hidi
    obtain ⟨ps, hps⟩ : ∃ ps, ps = grs c 0 (A.length : Int) L := ⟨_, rfl⟩
    rw [← hps] at hch hci hgp hgp2 n1 hid hidi ⊢
    have hil : (invL S).length = S.length := List.length_map _
    have hbuild : Ev (fun k => hunks_Build.f k (invL S) B A c) ((ps.map invP).map (hk B A), none) := by
      rcases build_is (invL S) B A c (by omega) (by omega) (by omega) tB tA with ⟨hno, _⟩ | ⟨L', hb', _, _, h2⟩
      · exact absurd hbin hno
      · obtain rfl : invL L = L' := congrArg Prod.fst (hbi.norm.symm.trans hb'.norm)
        rw [hgi, ← hps] at h2
        exact h2
    have hloop := tn_loop hb hA hsA hsB c ps (by omega) hid hidi hch hci hgp hgp2 ps [] rfl
    have hj : Ev (fun k => selvagelaw10_HunksTurned.j1 k (ps.map (hk A B)) ((ps.map invP).map (hk B A)) (((ps.map (hk A B)).length : Int) != (((ps.map invP).map (hk B A)).length : Int)) S A B c) true := by
      refine Ev.step (fun k => ?_) hloop
      rw [selvagelaw10_HunksTurned.j1, if_neg (by rw [List.length_map, List.length_map, List.length_map]; simp)]
      rfl
    refine Ev.step (fun k => by rw [selvagelaw10_HunksTurned.l0, if_neg (by omega), e1, Option.bind_some]) (Ev.bind (invert_is S (by omega)) ?_)
    refine Ev.same (fun k => by rw [e3, Option.bind_some, e2, Option.bind_some]) (Ev.bind hbuild ?_)
    exact Ev.same (fun k => if_pos hn) hj
theorem HunksTurned : ∀ (a0 : S25), Ext.ok25 a0 → Ext.wt25 a0 ≤ 1048576 → ∃ k, selvagelaw10_HunksTurned.f k a0.f0 a0.f1 a0.f2 a0.f3 = some true := by
  intro a0 _ hb
  unfold Ext.wt25 at hb
  have s0 : a0.f0.length ≤ (a0.f0.map Ext.wt53).sum := by
    have := len_sum Ext.wt53 1 (fun x => by unfold Ext.wt53; omega) a0.f0
    omega
  have s1 := len_sum (fun z : ByteArray => z.size + 1) 1 (fun x => by omega) a0.f1
  have s2 := len_sum (fun z : ByteArray => z.size + 1) 1 (fun x => by omega) a0.f2
  have t1 : ∀ s ∈ a0.f1, s.size ≤ 1048576 := fun s hs => by
    have := mem_sum (fun z : ByteArray => z.size + 1) a0.f1 s hs
    omega
  have t2 : ∀ s ∈ a0.f2, s.size ≤ 1048576 := fun s hs => by
    have := mem_sum (fun z : ByteArray => z.size + 1) a0.f2 s hs
    omega
  exact Ev.rounds (turned_law a0.f0 a0.f1 a0.f2 a0.f3 (by omega) (by omega) t1 t2)
end Go.Proofs.YtecjoofjiockkaaDoor.Pure
