/-
  Plain laws.
-/
import Derived.Test.YtecjoofjiockkaaDoorEPure
import Derived.Test.YtecjoofjiockkaaDoorPp11
import Derived.Test.YtecjoofjiockkaaDoorPp3
import Derived.Test.YtecjoofjiockkaaDoorESt
import Derived.Test.YtecjoofjiockkaaDoorPp0
import Derived.Test.YtecjoofjiockkaaDoorPp2
import Derived.Test.YtecjoofjiockkaaDoorPp4
import Derived.Test.YtecjoofjiockkaaDoorPp6
import Derived.Test.YtecjoofjiockkaaDoorPp7
import Derived.Test.YtecjoofjiockkaaDoorPp8
import Derived.Test.YtecjoofjiockkaaDoorPp12
import Derived.Test.YtecjoofjiockkaaDoorPp13
import Derived.Test.YtecjoofjiockkaaDoorPp14
import Derived.Test.YtecjoofjiockkaaDoorPp15
import Derived.Test.YtecjoofjiockkaaDoorPp16
import Derived.Test.YtecjoofjiockkaaDoorPp17
import Derived.Test.YtecjoofjiockkaaDoorPp18
import Derived.Test.YtecjoofjiockkaaDoorPp19
import Derived.Test.YtecjoofjiockkaaDoorPp26
import Derived.Test.YtecjoofjiockkaaDoorPp31
import Derived.Lib.IndexLaws
import Derived.Test.YtecjoofjiockkaaDoorEPairs
import Derived.Test.YtecjoofjiockkaaDoorEValid
import Derived.Test.YtecjoofjiockkaaDoorESides
import Derived.Test.YtecjoofjiockkaaDoorEKind
import Derived.Test.YtecjoofjiockkaaDoorEScript
import Derived.Test.YtecjoofjiockkaaDoorPp51
namespace Go.Proofs.YtecjoofjiockkaaDoor.Pure
open Go.RowKit Go.Proofs.YtecjoofjiockkaaDoor.Pp Go.Proofs.YtecjoofjiockkaaDoor.Ext Go.Proofs.YtecjoofjiockkaaDoorW.PrintWords Go.Proofs.YtecjoofjiockkaaDoorW.PrintLast Go.Proofs.YtecjoofjiockkaaDoorW.PrintMore
set_option linter.unusedVariables false
set_option linter.unusedSimpArgs false
theorem Ev.pure {α : Type} (v : α) : Ev (fun _ => some v) v := ⟨0, fun _ _ => rfl⟩
theorem Ev.same {α : Type} {F G : Nat → Option α} {v : α} (h : ∀ k, F k = G k) (hg : Ev G v) : Ev F v := Ev.congr h hg
theorem data_len (s : ByteArray) : s.data.toList.length = s.size := by rw [Array.length_toList]; rfl
theorem w_of (n : Nat) (m : Int) (h : m = (n : Int)) (hn : n ≤ 9223372036854775807) : wrap64 m = (n : Int) := by rw [h]; exact w64' (by omega) (by omega)
theorem bt_at (s : ByteArray) (j : Nat) (h : j < s.size) : (bt s (j : Int) = 10) ↔ s.data.toList[j]? = some 10 := by
  have hl : j < s.data.toList.length := by rw [data_len]; exact h
  rw [bt_list, List.getD_eq_getElem?_getD, List.getElem?_eq_getElem hl, Option.getD_some]
  constructor
  · intro e; congr 1; exact UInt8.toNat_inj.mp (by have : (10 : UInt8).toNat = 10 := rfl; omega)
  · intro e; injection e with e; rw [e]; rfl
theorem ix (s : ByteArray) : (Lib.indexByte s.data.toList 10 = -1 ∧ ∀ j : Nat, j < s.size → bt s (j : Int) ≠ 10) ∨
    (∃ o : Nat, o < s.size ∧ Lib.indexByte s.data.toList 10 = (o : Int) ∧ bt s (o : Int) = 10 ∧ ∀ j : Nat, j < o → bt s (j : Int) ≠ 10) := by
  have hge := Lib.indexByte_ge s.data.toList 10
  rcases (by omega : Lib.indexByte s.data.toList 10 = -1 ∨ 0 ≤ Lib.indexByte s.data.toList 10) with h | h
  · exact .inl ⟨h, fun j hj e => Lib.indexByte_none h j ((bt_at s j hj).mp e)⟩
  · obtain ⟨o, ho⟩ : ∃ o : Nat, Lib.indexByte s.data.toList 10 = o := ⟨_, (Int.toNat_of_nonneg h).symm⟩
    obtain ⟨h1, h2⟩ := Lib.indexByte_some ho
    have hlt : o < s.size := by
      rw [← data_len]
      exact (List.getElem?_eq_some_iff.mp h1).1
    exact .inr ⟨o, hlt, ho, (bt_at s o hlt).mpr h1, fun j hj e => h2 j hj ((bt_at s j (by omega)).mp e)⟩
theorem ixf (s : ByteArray) : strings_IndexByte.f s 10 = some (Lib.indexByte s.data.toList 10) := rfl
def whole (s : ByteArray) : Bool := decide (0 < s.size ∧ bt s ((s.size : Int) - 1) = 10)
def body (s : ByteArray) : Bool := decide (∀ j, j < s.size - 1 → bt s ((j : Nat) : Int) ≠ 10)
def line (s : ByteArray) : Bool := decide (0 < s.size) && body s
def validL : List ByteArray → Bool
  | [] => true
  | s :: t => line s && (t.isEmpty || whole s) && validL t
theorem nil_size (s : ByteArray) : s.toList = ([] : List UInt8) ↔ ¬ 0 < s.size := by rw [toList_nil]; omega
theorem drop_by {α : Type} (l : List α) (d : α) (i : Nat) (h : i < l.length) : l.drop i = l.getD i d :: l.drop (i + 1) := by
  rw [List.getD_eq_getElem?_getD, List.getElem?_eq_getElem h]
  exact List.drop_eq_getElem_cons h
theorem drop_empty {α : Type} (l : List α) (n : Nat) : (l.drop n).isEmpty = decide (l.length ≤ n) := by
  by_cases h : l.length ≤ n
  · rw [List.drop_of_length_le h, decide_eq_true h]; rfl
  · rw [decide_eq_false h]
    cases hd : l.drop n with
    | nil => have := congrArg List.length hd; rw [List.length_drop] at this; simp at this; omega
    | cons a b => rfl
theorem ask (s : ByteArray) (hs : s.size ≤ 4000000000) (more : Bool) (P : Prop) [Decidable P] (hP : P ↔ more = true) (F : Option Bool) (r : Bool) (hF : F = some r) :
    ((strings_IndexByte.f s 10).bind fun t111 => (if s.toList = ([] : List UInt8) then (some false) else (if t111 ≥ 0 then (if t111 < (wrap64 ((s.size : Int) - 1)) then (some false) else (if t111 < 0 then (if P then (some false) else F) else F)) else (if t111 < 0 then (if P then (some false) else F) else F)))) =
      some (line s && ((!more) || whole s) && r) := by
  rw [ixf, Option.bind_some]
  by_cases h0 : 0 < s.size
  · rw [if_neg (by rw [nil_size]; omega), w64' (by omega) (by omega)]
    have hl0 : decide (0 < s.size) = true := decide_eq_true h0
    rcases ix s with ⟨hx, hn⟩ | ⟨o, ho, hx, hb, hn⟩
    · rw [hx, if_neg (by omega), if_pos (by omega)]
      have hb : body s = true := decide_eq_true (fun j hj => hn j (by omega))
      have hw : whole s = false := decide_eq_false (fun hh => hn (s.size - 1) (by omega) (by rw [show ((s.size - 1 : Nat) : Int) = (s.size : Int) - 1 by omega]; exact hh.2))
      unfold line
      rw [hl0, hb, hw]
      cases more with
      | true => rw [if_pos (hP.mpr rfl)]; rfl
      | false => rw [if_neg (fun h => by have := hP.mp h; cases this), hF]; simp
    · rw [hx, if_pos (by omega)]
      by_cases hlt : (o : Int) < (s.size : Int) - 1
      · rw [if_pos hlt]
        have hb : body s = false := decide_eq_false (fun hh => hh o (by omega) hb)
        unfold line
        rw [hb]; simp
      · rw [if_neg hlt, if_neg (by omega), hF]
        have hb2 : body s = true := decide_eq_true (fun j hj => hn j (by omega))
        have hw : whole s = true := decide_eq_true ⟨h0, by rw [show (s.size : Int) - 1 = (o : Int) by omega]; exact hb⟩
        unfold line
        rw [hl0, hb2, hw]; simp
  · rw [if_pos (by rw [nil_size]; exact h0)]
    unfold line
    rw [decide_eq_false h0]; simp
theorem p_valid_at (l : List ByteArray) (hl : l.length ≤ 4000000000) (hs : ∀ s ∈ l, s.size ≤ 4000000000) (d : Nat) : ∀ i : Nat, i + d = l.length → Ev (fun k => lines_Valid.l0 k l l (l.length : Int) (i : Int)) (validL (l.drop i)) := by
  induction d with
  | zero =>
    intro i h
    rw [List.drop_of_length_le (by omega)]
    exact Ev.step (f := fun _ => some true) (fun k => by rw [lines_Valid.l0, if_neg (by omega)]) (Ev.pure _)
  | succ d ih =>
    intro i h
    have hi : i < l.length := by omega
    rw [drop_by l ByteArray.empty i hi]
    obtain ⟨s, hse⟩ : ∃ s, s = l.getD i ByteArray.empty := ⟨_, rfl⟩
    have hm : s ∈ l := by rw [hse, List.getD_eq_getElem?_getD, List.getElem?_eq_getElem hi]; exact List.getElem_mem hi
    obtain ⟨K, hK⟩ := ih (i + 1) (by omega)
    refine ⟨K + 1, fun k hk => ?_⟩
    obtain ⟨k, rfl⟩ : ∃ j, k = j + 1 := ⟨k - 1, by omega⟩
    show lines_Valid.l0 (k + 1) l l (l.length : Int) (i : Int) = some _
    rw [← hse, validL, lines_Valid.l0, if_pos (by omega), if_pos (by omega), if_pos (by omega), rd_nat, ← hse]
    rw [ask s (hs s hm) (!(l.drop (i + 1)).isEmpty) ((i : Int) < wrap64 ((l.length : Int) - 1)) ?_ _ (validL (l.drop (i + 1))) ?_, Bool.not_not]
    · rw [w64' (by omega) (by omega)]
      rw [drop_empty]
      simp only [Bool.not_eq_true', decide_eq_false_iff_not]
      omega
    · rw [w_of (i + 1) _ (by omega) (by omega)]
      exact hK k (by omega)
theorem p_valid (l : List ByteArray) (hl : l.length ≤ 4000000000) (hs : ∀ s ∈ l, s.size ≤ 4000000000) : Ev (fun k => lines_Valid.f k l) (validL l) := by
  have := p_valid_at l hl hs l.length 0 (by omega)
  rw [List.drop_zero] at this
  exact this
theorem last_byte (s : ByteArray) (n : Nat) (hn : s.size = n + 1) : ∃ b : UInt8, s.data.toList = s.data.toList.take n ++ [b] ∧ bt s (n : Int) = (b.toNat : Int) := by
  have hl : n < s.data.toList.length := by rw [data_len]; omega
  refine ⟨s.data.toList[n], ?_, ?_⟩
  · have h1 := List.take_append_drop n s.data.toList
    rw [List.drop_eq_getElem_cons hl, List.drop_of_length_le (by rw [data_len]; omega)] at h1
    exact h1.symm
  · rw [bt_list, List.getD_eq_getElem?_getD, List.getElem?_eq_getElem hl]; rfl
theorem suffix_at (s : ByteArray) (hs : s.size ≤ 4000000000) : stringslite_HasSuffix.f s (⟨#[10]⟩ : ByteArray) = some (whole s) := by
  unfold stringslite_HasSuffix.f
  have h1 : (⟨#[10]⟩ : ByteArray).size = 1 := rfl
  rw [h1]
  by_cases h : 0 < s.size
  · obtain ⟨n, hn⟩ : ∃ n, s.size = n + 1 := ⟨s.size - 1, by omega⟩
    have w : wrap64 ((s.size : Int) - ((1 : Nat) : Int)) = (n : Int) := by rw [w64' (by omega) (by omega)]; omega
    obtain ⟨b, hb, hv⟩ := last_byte s n hn
    have hsuf : (s.extract n s.size).toList = [b] := by
      rw [Lib.toList_data, Lib.extract_data, hb, List.drop_left' (by rw [List.length_take, data_len]; omega), hn, show n + 1 - n = 1 by omega]; rfl
    have h10 : (⟨#[10]⟩ : ByteArray).toList = ([10] : List UInt8) := by rw [Lib.toList_data]
    rw [if_pos (by omega), w, if_pos (by omega), if_pos (by omega), Int.toNat_natCast, hsuf, h10]
    unfold whole
    rw [show (s.size : Int) - 1 = (n : Int) by omega, hv]
    congr 1
    by_cases e : b = 10
    · rw [e, decide_eq_true ⟨h, by rfl⟩]; rfl
    · have hne : ¬ (b.toNat : Int) = 10 := fun x => e (UInt8.toNat_inj.mp (by have : (10 : UInt8).toNat = 10 := rfl; omega))
      rw [decide_eq_false (fun x => hne x.2)]
      simp [e]
  · rw [if_neg (by omega)]
    unfold whole
    rw [decide_eq_false (fun x => h x.1)]
theorem whole_at (s : ByteArray) (hs : s.size ≤ 4000000000) : lines_Whole.f s = some (whole s) := by
  unfold lines_Whole.f strings_HasSuffix.f
  rw [suffix_at s hs]; rfl
def bare (s : ByteArray) : ByteArray := if whole s = true then s.extract 0 (s.size - 1) else s
theorem bare_at (s : ByteArray) (hs : s.size ≤ 4000000000) : lines_Bare.f s = some (bare s) := by
  unfold lines_Bare.f strings_TrimSuffix.f stringslite_TrimSuffix.f bare
  rw [suffix_at s hs, Option.bind_some]
  have h1 : (⟨#[10]⟩ : ByteArray).size = 1 := rfl
  rw [h1]
  cases hw : whole s with
  | false => rw [if_neg (by simp), if_neg (by simp)]; rfl
  | true =>
    have h0 := (of_decide_eq_true hw).1
    rw [if_pos rfl, if_pos rfl, w64' (by omega) (by omega), if_pos (by omega), if_pos (by omega), show ((s.size : Int) - ((1 : Nat) : Int)).toNat = s.size - 1 by omega]
    rfl
theorem contains_at (s : ByteArray) : strings_Contains.f s (⟨#[10]⟩ : ByteArray) = some (decide (∃ j, j < s.size ∧ bt s ((j : Nat) : Int) = 10)) := by
  show some (decide (0 ≤ Lib.indexByte s.data.toList 10)) = _
  congr 1
  rcases ix s with ⟨hx, hn⟩ | ⟨o, ho, hx, hb, hn⟩
  · rw [hx, decide_eq_false (by omega)]
    symm
    exact decide_eq_false (fun ⟨j, h1, h2⟩ => hn j h1 h2)
  · rw [hx, decide_eq_true (by omega)]
    symm
    exact decide_eq_true ⟨o, ho, hb⟩
theorem bare_body (s : ByteArray) (h0 : 0 < s.size) : (!decide (∃ j, j < (bare s).size ∧ bt (bare s) ((j : Nat) : Int) = 10)) = body s := by
  unfold bare body
  cases hw : whole s with
  | true =>
    rw [if_pos rfl]
    have hz : (s.extract 0 (s.size - 1)).size = s.size - 1 := by rw [ByteArray.size_extract]; omega
    rw [← decide_not]
    congr 1
    apply propext
    constructor
    · intro h j hj e
      exact h ⟨j, by rw [hz]; exact hj, by rw [bt_extract s 0 (s.size - 1) j (by omega), Nat.zero_add]; exact e⟩
    · rintro h ⟨j, hj, e⟩
      rw [hz] at hj
      rw [bt_extract s 0 (s.size - 1) j (by omega), Nat.zero_add] at e
      exact h j hj e
  | false =>
    rw [if_neg (by simp), ← decide_not]
    have hlast : bt s ((s.size : Int) - 1) ≠ 10 := fun e => (of_decide_eq_false hw) ⟨h0, e⟩
    congr 1
    apply propext
    constructor
    · intro h j hj e
      exact h ⟨j, by omega, e⟩
    · rintro h ⟨j, hj, e⟩
      by_cases hj2 : j < s.size - 1
      · exact h j hj2 e
      · exact hlast (by rw [show (s.size : Int) - 1 = (j : Int) by omega]; exact e)
theorem line_at (s : ByteArray) (hs : s.size ≤ 4000000000) : hunks_line.f s = some (line s) := by
  unfold hunks_line.f line
  by_cases h0 : 0 < s.size
  · rw [if_neg (by rw [nil_size]; omega), bare_at s hs, Option.bind_some, contains_at, Option.bind_some, bare_body s h0, decide_eq_true h0]; rfl
  · rw [if_pos (by rw [nil_size]; exact h0), decide_eq_false h0]; rfl
end Go.Proofs.YtecjoofjiockkaaDoor.Pure
namespace Go.Proofs.YtecjoofjiockkaaDoor.Pure
open Go.RowKit Go.Proofs.YtecjoofjiockkaaDoor.Pp Go.Proofs.YtecjoofjiockkaaDoor.Ext Go.Proofs.YtecjoofjiockkaaDoorW.PrintWords Go.Proofs.YtecjoofjiockkaaDoorW.PrintLast Go.Proofs.YtecjoofjiockkaaDoorW.PrintMore
set_option linter.unusedVariables false
set_option linter.unusedSimpArgs false
theorem drop53 (s : List S53) (i : Nat) (h : i < s.length) : s.drop i = rd_T53 s (i : Int) :: s.drop (i + 1) := by
  unfold rd_T53
  rw [Int.toNat_natCast, List.getD_eq_getElem?_getD, List.getElem?_eq_getElem h]
  exact List.drop_eq_getElem_cons h
def okC (n m a b : Int) (c : S53) : Prop :=
  0 ≤ c.f1 ∧ 0 ≤ c.f3 ∧ (c.f1 ≠ 0 ∨ c.f3 ≠ 0) ∧ a ≤ c.f0 ∧ c.f0 ≤ n ∧ b ≤ c.f2 ∧ c.f2 ≤ m ∧ c.f0 - a = c.f2 - b ∧ c.f1 ≤ n - c.f0 ∧ c.f3 ≤ m - c.f2
def validP (n m : Int) : List S53 → Int → Int → Prop
  | [], a, b => n - a = m - b
  | c :: t, a, b => okC n m a b c ∧ validP n m t (c.f0 + c.f1) (c.f2 + c.f3)
open Classical in
noncomputable def errP (p : Prop) : Option Int := if p then none else some 60
theorem errP_pos {p : Prop} (h : p) : errP p = none := by unfold errP; rw [if_pos h]
theorem errP_neg {p : Prop} (h : ¬ p) : errP p = some 60 := by unfold errP; rw [if_neg h]
set_option maxHeartbeats 1000000 in
theorem valid_step (n m a b : Int) (s : List S53) (i : Nat) (hi : i < s.length) (hs : s.length ≤ 4000000000) (hn : n ≤ 4194304) (hm : m ≤ 4194304) (ha : 0 ≤ a) (hb : 0 ≤ b) (k : Nat) :
    (okC n m a b (rd_T53 s (i : Int)) → edits_Valid.l0 (k + 1) n m a b s (s.length : Int) (i : Int) = edits_Valid.l0 k n m ((rd_T53 s (i : Int)).f0 + (rd_T53 s (i : Int)).f1) ((rd_T53 s (i : Int)).f2 + (rd_T53 s (i : Int)).f3) s (s.length : Int) ((i + 1 : Nat) : Int)) ∧
    (¬ okC n m a b (rd_T53 s (i : Int)) → edits_Valid.l0 (k + 1) n m a b s (s.length : Int) (i : Int) = some (some 60)) := by
  have w1 : wrap64 ((i : Int) + 1) = ((i + 1 : Nat) : Int) := w_add i 1 (by omega)
  generalize hc : rd_T53 s (i : Int) = c
  constructor
  · rintro ⟨h1, h2, h3, h4, h5, h6, h7, h8, h9, h10⟩
    have e1 : wrap64 (c.f0 - a) = c.f0 - a := w64' (by omega) (by omega)
    have e2 : wrap64 (c.f2 - b) = c.f2 - b := w64' (by omega) (by omega)
    have e3 : wrap64 (n - c.f0) = n - c.f0 := w64' (by omega) (by omega)
    have e4 : wrap64 (m - c.f2) = m - c.f2 := w64' (by omega) (by omega)
    have e5 : wrap64 (c.f0 + c.f1) = c.f0 + c.f1 := w64' (by omega) (by omega)
    have e6 : wrap64 (c.f2 + c.f3) = c.f2 + c.f3 := w64' (by omega) (by omega)
    simp only [edits_Valid.l0, hc, w1, e1, e2, e3, e4, e5, e6]
    rw [if_pos (by omega), if_pos (by omega), if_pos (by omega), if_neg (by omega), if_neg (by omega)]
    by_cases z : c.f1 = 0
    · rw [if_pos z, if_neg (by omega), if_neg (by omega), if_neg (by omega), if_neg (by omega), if_neg (by omega), if_pos h8, if_neg (by omega), if_neg (by omega)]
    · rw [if_neg z, if_neg (by omega), if_neg (by omega), if_neg (by omega), if_neg (by omega), if_pos h8, if_neg (by omega), if_neg (by omega)]
  · intro hno
    simp only [edits_Valid.l0, hc]
    rw [if_pos (by omega), if_pos (by omega), if_pos (by omega)]
    by_cases q1 : c.f1 < 0
    · rw [if_pos q1]
    rw [if_neg q1]
    by_cases q2 : c.f3 < 0
    · rw [if_pos q2]
    rw [if_neg q2]
    by_cases z : c.f1 = 0
    · rw [if_pos z]
      by_cases z3 : c.f3 = 0
      · rw [if_pos z3]
      rw [if_neg z3]
      by_cases q3 : c.f0 < a
      · rw [if_pos q3]
      rw [if_neg q3]
      by_cases q4 : c.f0 > n
      · rw [if_pos q4]
      rw [if_neg q4]
      by_cases q5 : c.f2 < b
      · rw [if_pos q5]
      rw [if_neg q5]
      by_cases q6 : c.f2 > m
      · rw [if_pos q6]
      rw [if_neg q6]
      have e1 : wrap64 (c.f0 - a) = c.f0 - a := w64' (by omega) (by omega)
      have e2 : wrap64 (c.f2 - b) = c.f2 - b := w64' (by omega) (by omega)
      have e3 : wrap64 (n - c.f0) = n - c.f0 := w64' (by omega) (by omega)
      have e4 : wrap64 (m - c.f2) = m - c.f2 := w64' (by omega) (by omega)
      rw [e1, e2]
      by_cases q7 : c.f0 - a = c.f2 - b
      case neg => rw [if_neg q7]
      rw [if_pos q7, e3]
      by_cases q8 : c.f1 > n - c.f0
      · rw [if_pos q8]
      rw [if_neg q8]
      rw [e4]
      by_cases q9 : c.f3 > m - c.f2
      · rw [if_pos q9]
      rw [if_neg q9]
      exact absurd ⟨by omega, by omega, by omega, by omega, by omega, by omega, by omega, q7, by omega, by omega⟩ hno
    · rw [if_neg z]
      by_cases q3 : c.f0 < a
      · rw [if_pos q3]
      rw [if_neg q3]
      by_cases q4 : c.f0 > n
      · rw [if_pos q4]
      rw [if_neg q4]
      by_cases q5 : c.f2 < b
      · rw [if_pos q5]
      rw [if_neg q5]
      by_cases q6 : c.f2 > m
      · rw [if_pos q6]
      rw [if_neg q6]
      have e1 : wrap64 (c.f0 - a) = c.f0 - a := w64' (by omega) (by omega)
      have e2 : wrap64 (c.f2 - b) = c.f2 - b := w64' (by omega) (by omega)
      have e3 : wrap64 (n - c.f0) = n - c.f0 := w64' (by omega) (by omega)
      have e4 : wrap64 (m - c.f2) = m - c.f2 := w64' (by omega) (by omega)
      rw [e1, e2]
      by_cases q7 : c.f0 - a = c.f2 - b
      case neg => rw [if_neg q7]
      rw [if_pos q7, e3]
      by_cases q8 : c.f1 > n - c.f0
      · rw [if_pos q8]
      rw [if_neg q8]
      rw [e4]
      by_cases q9 : c.f3 > m - c.f2
      · rw [if_pos q9]
      rw [if_neg q9]
      exact absurd ⟨by omega, by omega, by omega, by omega, by omega, by omega, by omega, q7, by omega, by omega⟩ hno
theorem valid_loop (n m : Int) (s : List S53) (hs : s.length ≤ 4000000000) (hn : n ≤ 4194304) (hm : m ≤ 4194304) (d : Nat) : ∀ (i : Nat) (a b : Int), i + d = s.length → 0 ≤ a → a ≤ n → 0 ≤ b → b ≤ m →
    Ev (fun k => edits_Valid.l0 k n m a b s (s.length : Int) (i : Int)) (errP (validP n m (s.drop i) a b)) := by
  induction d with
  | zero =>
    intro i a b hd ha han hb hbm
    rw [List.drop_of_length_le (by omega)]
    refine Ev.step (f := fun _ => some (errP (validP n m [] a b))) (fun k => ?_) (Ev.pure _)
    have e1 : wrap64 (n - a) = n - a := w64' (by omega) (by omega)
    have e2 : wrap64 (m - b) = m - b := w64' (by omega) (by omega)
    simp only [edits_Valid.l0, e1, e2]
    rw [if_neg (by omega)]
    by_cases h : n - a = m - b
    · rw [if_pos h, errP_pos (show validP n m [] a b from h)]
    · rw [if_neg h, errP_neg (show ¬ validP n m [] a b from h)]
  | succ d ih =>
    intro i a b hd ha han hb hbm
    have hst := fun k => valid_step n m a b s i (by omega) hs hn hm ha hb k
    rw [drop53 s i (by omega)]
    by_cases h : okC n m a b (rd_T53 s (i : Int))
    · refine Ev.step (fun k => (hst k).1 h) ?_
      have hk := h
      obtain ⟨h1, h2, h3, h4, h5, h6, h7, h8, h9, h10⟩ := hk
      have := ih (i + 1) ((rd_T53 s (i : Int)).f0 + (rd_T53 s (i : Int)).f1) ((rd_T53 s (i : Int)).f2 + (rd_T53 s (i : Int)).f3) (by omega) (by omega) (by omega) (by omega) (by omega)
      have e : validP n m (rd_T53 s (i : Int) :: s.drop (i + 1)) a b = validP n m (s.drop (i + 1)) ((rd_T53 s (i : Int)).f0 + (rd_T53 s (i : Int)).f1) ((rd_T53 s (i : Int)).f2 + (rd_T53 s (i : Int)).f3) := propext ⟨fun x => x.2, fun x => ⟨h, x⟩⟩
      rw [e]
      exact this
    · refine Ev.step (f := fun _ => some (some 60)) (fun k => (hst k).2 h) ?_
      rw [errP_neg (fun x => h x.1)]
      exact Ev.pure _
noncomputable def validS (s : List S53) (n m : Int) : Option Int := if n > 4194304 ∨ m > 4194304 then some 1 else errP (validP n m s 0 0)
theorem valid_at (s : List S53) (hs : s.length ≤ 4000000000) (n m : Int) (hn : 0 ≤ n) (hm : 0 ≤ m) : Ev (fun k => edits_Valid.f k s n m) (validS s n m) := by
  unfold validS
  have jt : Ev (fun k => edits_Valid.j0 k s n m true) (some 1) := Ev.step (f := fun _ => some (some 1)) (fun k => by simp [edits_Valid.j0]) (Ev.pure _)
  by_cases h1 : n > 4194304
  · rw [if_pos (Or.inl h1)]
    refine Ev.same (fun k => ?_) jt
    unfold edits_Valid.f
    rw [if_neg (by omega), if_pos h1]
  · by_cases h2 : m > 4194304
    · rw [if_pos (Or.inr h2)]
      refine Ev.same (fun k => ?_) jt
      unfold edits_Valid.f
      rw [if_neg (by omega), if_neg h1, if_neg (by omega), decide_eq_true h2]
    · rw [if_neg (by omega)]
      refine Ev.same (G := fun k => edits_Valid.j0 k s n m false) (fun k => ?_) ?_
      · unfold edits_Valid.f
        rw [if_neg (by omega), if_neg h1, if_neg (by omega), decide_eq_false h2]
      · refine Ev.step (f := fun k => edits_Valid.l0 k n m 0 0 s (s.length : Int) 0) (fun k => by simp [edits_Valid.j0]) ?_
        exact valid_loop n m s hs (by omega) (by omega) s.length 0 0 0 (by omega) (by omega) hn (by omega) hm
end Go.Proofs.YtecjoofjiockkaaDoor.Pure
namespace Go.Proofs.YtecjoofjiockkaaDoor.Pure
open Go.RowKit Go.Proofs.YtecjoofjiockkaaDoor.Pp Go.Proofs.YtecjoofjiockkaaDoor.Ext Go.Proofs.YtecjoofjiockkaaDoorW.PrintWords Go.Proofs.YtecjoofjiockkaaDoorW.PrintLast Go.Proofs.YtecjoofjiockkaaDoorW.PrintMore
set_option linter.unusedVariables false
set_option linter.unusedSimpArgs false
theorem drop37 (s : List S37) (i : Nat) (h : i < s.length) : s.drop i = rd_T37 s (i : Int) :: s.drop (i + 1) := by
  unfold rd_T37
  rw [Int.toNat_natCast, List.getD_eq_getElem?_getD, List.getElem?_eq_getElem h]
  exact List.drop_eq_getElem_cons h
def runP (a b : Int) : Nat → List S37
  | 0 => []
  | d + 1 => ⟨a, b⟩ :: runP (a + 1) (b + 1) d
theorem runP_length (d : Nat) : ∀ a b, (runP a b d).length = d := by
  induction d with
  | zero => intro a b; rfl
  | succ d ih => intro a b; simp only [runP, List.length_cons, ih]
def pairsL (n : Int) : List S53 → Int → Int → List S37
  | [], a, b => runP a b (n - a).toNat
  | c :: t, a, b => runP a b (c.f0 - a).toNat ++ pairsL n t (c.f0 + c.f1) (c.f2 + c.f3)
theorem pairsL_length (n m : Int) : ∀ (s : List S53) (a b : Int), validP n m s a b → a ≤ n → ((pairsL n s a b).length : Int) ≤ n - a
  | [], a, b, _, h => by
    simp only [pairsL, runP_length]; omega
  | c :: t, a, b, hv, h => by
    obtain ⟨⟨h1, h2, h3, h4, h5, h6, h7, h8, h9, h10⟩, hv2⟩ := hv
    have := pairsL_length n m t (c.f0 + c.f1) (c.f2 + c.f3) hv2 (by omega)
    simp only [pairsL, List.length_append, runP_length]
    omega
def gap (a b x y : Int) : List S53 := if a < x ∨ b < y then [⟨a, x - a, b, y - b⟩] else []
theorem gap_none (a b : Int) : gap a b a b = [] := by unfold gap; rw [if_neg (by omega)]
theorem gap_some {a b x y : Int} (h : a < x ∨ b < y) : gap a b x y = [⟨a, x - a, b, y - b⟩] := by unfold gap; rw [if_pos h]
def inO (n m : Int) : List S37 → Int → Int → Prop
  | [], _, _ => True
  | p :: t, a, b => a ≤ p.f0 ∧ b ≤ p.f1 ∧ p.f0 < n ∧ p.f1 < m ∧ inO n m t (p.f0 + 1) (p.f1 + 1)
theorem inO_weaken {n m : Int} {l : List S37} {a b a' b' : Int} (h : inO n m l a b) (ha : a' ≤ a) (hb : b' ≤ b) : inO n m l a' b' := by
  cases l with
  | nil => exact trivial
  | cons p t => obtain ⟨h1, h2, h3⟩ := h; exact ⟨by omega, by omega, h3⟩
theorem inO_run {n m : Int} {rest : List S37} (d : Nat) : ∀ (a b pa pb : Int), pa ≤ a → pb ≤ b → a + (d : Int) ≤ n → b + (d : Int) ≤ m → inO n m rest (a + (d : Int)) (b + (d : Int)) → inO n m (runP a b d ++ rest) pa pb := by
  induction d with
  | zero => intro a b pa pb h1 h2 h3 h4 h; exact inO_weaken h (by omega) (by omega)
  | succ d ih =>
    intro a b pa pb h1 h2 h3 h4 h
    refine ⟨h1, h2, by show a < n; omega, by show b < m; omega, ih (a + 1) (b + 1) (a + 1) (b + 1) (by omega) (by omega) (by omega) (by omega) ?_⟩
    rw [show a + 1 + (d : Int) = a + ((d + 1 : Nat) : Int) by omega, show b + 1 + (d : Int) = b + ((d + 1 : Nat) : Int) by omega]
    exact h
theorem inO_pairs (n m : Int) : ∀ (s : List S53) (a b : Int), validP n m s a b → a ≤ n → b ≤ m → inO n m (pairsL n s a b) a b
  | [], a, b, hv, ha, hb => by
    have hv' : n - a = m - b := hv
    have := inO_run (n := n) (m := m) (rest := []) (n - a).toNat a b a b (by omega) (by omega) (by omega) (by omega) trivial
    rw [List.append_nil] at this
    exact this
  | c :: t, a, b, hv, ha, hb => by
    obtain ⟨⟨h1, h2, h3, h4, h5, h6, h7, h8, h9, h10⟩, hv2⟩ := hv
    exact inO_run (c.f0 - a).toNat a b a b (by omega) (by omega) (by omega) (by omega) (inO_weaken (inO_pairs n m t _ _ hv2 (by omega) (by omega)) (by omega) (by omega))
def nrm : List S53 → Int → Int → Int → Int → List S53
  | [], pa, pb, qa, qb => gap pa pb qa qb
  | c :: t, pa, pb, qa, qb => if qa < c.f0 then gap pa pb qa qb ++ nrm t c.f0 c.f2 (c.f0 + c.f1) (c.f2 + c.f3) else nrm t pa pb (c.f0 + c.f1) (c.f2 + c.f3)
theorem validS_none {s : List S53} {n m : Int} (h : validS s n m = none) : n ≤ 4194304 ∧ m ≤ 4194304 ∧ validP n m s 0 0 := by
  unfold validS at h
  split at h
  · cases h
  · rename_i hc
    refine ⟨by omega, by omega, ?_⟩
    unfold errP at h
    split at h
    · assumption
    · cases h
noncomputable def normS (s : List S53) (n m : Int) : List S53 × Option Int := if (validS s n m).isNone = true then (nrm s 0 0 0 0, none) else ([], validS s n m)
end Go.Proofs.YtecjoofjiockkaaDoor.Pure
namespace Go.Proofs.YtecjoofjiockkaaDoor.Pure
open Go.RowKit Go.Proofs.YtecjoofjiockkaaDoor.Pp Go.Proofs.YtecjoofjiockkaaDoor.Ext Go.Proofs.YtecjoofjiockkaaDoorW.PrintWords Go.Proofs.YtecjoofjiockkaaDoorW.PrintLast Go.Proofs.YtecjoofjiockkaaDoorW.PrintMore
set_option linter.unusedVariables false
set_option linter.unusedSimpArgs false
theorem set_last (d : List S53) (x y : S53) : (d ++ [x]).set d.length y = d ++ [y] := by
  rw [List.set_append_right _ _ (Nat.le_refl _), Nat.sub_self]; rfl
theorem rd_last (d : List S53) (x : S53) : rd_T53 (d ++ [x]) (d.length : Int) = x := by
  unfold rd_T53
  rw [Int.toNat_natCast, List.getD_eq_getElem?_getD, List.getElem?_append_right (Nat.le_refl _), Nat.sub_self]; rfl
theorem norm_app (k : Nat) (L s : List S53) (i : Nat) (x c : S53) (hi : i < s.length) (hs : s.length ≤ 4000000000) (hL : 0 < L.length) (hL2 : L.length ≤ 4000000001) (hx : rd_T53 L ((L.length - 1 : Nat) : Int) = x) (hc : rd_T53 s (i : Int) = c) (hne : ¬ wrap64 (x.f0 + x.f1) = c.f0) :
    edits_Normal.l0 (k + 1) L s (s.length : Int) (i : Int) = edits_Normal.l0 k (L ++ [⟨c.f0, c.f1, c.f2, c.f3⟩]) s (s.length : Int) ((i + 1 : Nat) : Int) := by
  have w1 : wrap64 ((i : Int) + 1) = ((i + 1 : Nat) : Int) := w_add i 1 (by omega)
  have wl : wrap64 ((L.length : Int) - 1) = ((L.length - 1 : Nat) : Int) := by rw [w64' (by omega) (by omega)]; omega
  rw [edits_Normal.l0, if_pos (by omega), if_pos (by omega), if_pos (by omega), wl, hx, hc, w1, if_pos (by omega), if_pos (by omega), if_pos (by omega), if_neg hne, if_pos (by omega)]
theorem norm_mrg (k : Nat) (L s : List S53) (i : Nat) (x c y _z : S53) (L1 L2 : List S53) (hi : i < s.length) (hs : s.length ≤ 4000000000) (hL : 0 < L.length) (hL2 : L.length ≤ 4000000001) (hx : rd_T53 L ((L.length - 1 : Nat) : Int) = x) (hc : rd_T53 s (i : Int) = c) (he : wrap64 (x.f0 + x.f1) = c.f0)
    (h1 : L.set (L.length - 1) ⟨x.f0, wrap64 (x.f1 + c.f1), x.f2, x.f3⟩ = L1) (hy : rd_T53 L1 ((L.length - 1 : Nat) : Int) = y) (h2 : L1.set (L.length - 1) ⟨y.f0, y.f1, y.f2, wrap64 (y.f3 + c.f3)⟩ = L2) :
    edits_Normal.l0 (k + 1) L s (s.length : Int) (i : Int) = edits_Normal.l0 k L2 s (s.length : Int) ((i + 1 : Nat) : Int) := by
  have w1 : wrap64 ((i : Int) + 1) = ((i + 1 : Nat) : Int) := w_add i 1 (by omega)
  have wl : wrap64 ((L.length : Int) - 1) = ((L.length - 1 : Nat) : Int) := by rw [w64' (by omega) (by omega)]; omega
  rw [edits_Normal.l0, if_pos (by omega), if_pos (by omega), if_pos (by omega), wl, hx, hc, w1, if_pos (by omega), if_pos (by omega), if_pos (by omega), if_pos he, Int.toNat_natCast, h1, Option.bind_some, hy, h2]
theorem norm_loop (s : List S53) (n m : Int) (hn : n ≤ 4194304) (hm : m ≤ 4194304) (hs : s.length ≤ 4000000000) (d : Nat) : ∀ (i : Nat) (dn : List S53) (pa pb qa qb : Int), i + d = s.length → validP n m (s.drop i) qa qb → 0 ≤ pa → pa ≤ qa → qa ≤ n → 0 ≤ pb → pb ≤ qb → qb ≤ m → (pa < qa ∨ pb < qb) → dn.length ≤ i →
    Ev (fun k => edits_Normal.l0 k (dn ++ [⟨pa, qa - pa, pb, qb - pb⟩]) s (s.length : Int) (i : Int)) (dn ++ nrm (s.drop i) pa pb qa qb, none) := by
  induction d with
  | zero =>
    intro i dn pa pb qa qb hd hv a1 a2 a3 a4 a5 a6 a7 a8
    rw [List.drop_of_length_le (by omega)]
    refine Ev.step (f := fun _ => some (dn ++ nrm [] pa pb qa qb, none)) (fun k => ?_) (Ev.pure _)
    simp only [edits_Normal.l0, nrm]
    rw [if_neg (by omega), gap_some a7]
  | succ d ih =>
    intro i dn pa pb qa qb hd hv a1 a2 a3 a4 a5 a6 a7 a8
    rw [drop53 s i (by omega)] at hv ⊢
    obtain ⟨⟨h1, h2, h3, h4, h5, h6, h7, h8, h9, h10⟩, hv2⟩ := hv
    generalize hc : rd_T53 s (i : Int) = c at h1 h2 h3 h4 h5 h6 h7 h8 h9 h10 hv2 ⊢
    have hl : (dn ++ [(⟨pa, qa - pa, pb, qb - pb⟩ : S53)]).length = dn.length + 1 := by rw [List.length_append, List.length_singleton]
    have hx : rd_T53 (dn ++ [(⟨pa, qa - pa, pb, qb - pb⟩ : S53)]) (((dn ++ [(⟨pa, qa - pa, pb, qb - pb⟩ : S53)]).length - 1 : Nat) : Int) = ⟨pa, qa - pa, pb, qb - pb⟩ := by rw [hl, Nat.add_sub_cancel]; exact rd_last _ _
    have wq : wrap64 (pa + (qa - pa)) = qa := by rw [w64' (by omega) (by omega)]; omega
    by_cases q : qa < c.f0
    · have := ih (i + 1) (dn ++ [⟨pa, qa - pa, pb, qb - pb⟩]) c.f0 c.f2 (c.f0 + c.f1) (c.f2 + c.f3) (by omega) hv2 (by omega) (by omega) (by omega) (by omega) (by omega) (by omega) (by omega) (by omega)
      have en : dn ++ nrm (c :: s.drop (i + 1)) pa pb qa qb = (dn ++ [⟨pa, qa - pa, pb, qb - pb⟩]) ++ nrm (s.drop (i + 1)) c.f0 c.f2 (c.f0 + c.f1) (c.f2 + c.f3) := by
        simp only [nrm]; rw [if_pos q, gap_some a7, List.append_assoc]
      have ec : (⟨c.f0, c.f0 + c.f1 - c.f0, c.f2, c.f2 + c.f3 - c.f2⟩ : S53) = ⟨c.f0, c.f1, c.f2, c.f3⟩ := by rw [show c.f0 + c.f1 - c.f0 = c.f1 by omega, show c.f2 + c.f3 - c.f2 = c.f3 by omega]
      rw [en]
      rw [ec] at this
      exact Ev.step (fun k => norm_app k _ s i _ c (by omega) hs (by omega) (by omega) hx hc (by show ¬ wrap64 (pa + (qa - pa)) = c.f0; rw [wq]; omega)) this
    · have := ih (i + 1) dn pa pb (c.f0 + c.f1) (c.f2 + c.f3) (by omega) hv2 (by omega) (by omega) (by omega) (by omega) (by omega) (by omega) (by omega) (by omega)
      have en : nrm (c :: s.drop (i + 1)) pa pb qa qb = nrm (s.drop (i + 1)) pa pb (c.f0 + c.f1) (c.f2 + c.f3) := by simp only [nrm]; rw [if_neg q]
      rw [en]
      refine Ev.step (fun k => norm_mrg k _ s i _ c ⟨pa, c.f0 + c.f1 - pa, pb, qb - pb⟩ c (dn ++ [⟨pa, c.f0 + c.f1 - pa, pb, qb - pb⟩]) (dn ++ [⟨pa, c.f0 + c.f1 - pa, pb, c.f2 + c.f3 - pb⟩]) (by omega) hs (by omega) (by omega) hx hc (by show wrap64 (pa + (qa - pa)) = c.f0; rw [wq]; omega) ?_ ?_ ?_) this
      · rw [hl, Nat.add_sub_cancel, set_last]
        show dn ++ [(⟨pa, wrap64 (qa - pa + c.f1), pb, qb - pb⟩ : S53)] = _
        rw [w64' (by omega) (by omega), show qa - pa + c.f1 = c.f0 + c.f1 - pa by omega]
      · rw [hl, Nat.add_sub_cancel]; exact rd_last _ _
      · rw [hl, Nat.add_sub_cancel, set_last]
        show dn ++ [(⟨pa, c.f0 + c.f1 - pa, pb, wrap64 (qb - pb + c.f3)⟩ : S53)] = _
        rw [w64' (by omega) (by omega), show qb - pb + c.f3 = c.f2 + c.f3 - pb by omega]
theorem norm_at (s : List S53) (hs : s.length ≤ 4000000000) (n m : Int) (hn0 : 0 ≤ n) (hm0 : 0 ≤ m) : Ev (fun k => edits_Normal.f k s n m) (normS s n m) := by
  refine Ev.bind (valid_at s hs n m hn0 hm0) ?_
  unfold normS
  cases hv : validS s n m with
  | some e =>
    refine Ev.same (G := fun _ => some ([], some e)) (fun k => ?_) ?_
    · rw [if_neg (by simp)]; rfl
    · rw [if_neg (by simp)]; exact Ev.pure _
  | none =>
    obtain ⟨hn, hm, hp⟩ := validS_none hv
    rw [if_pos (show (none : Option Int).isNone = true from rfl)]
    refine Ev.same (G := fun k => edits_Normal.l0 k [] s (s.length : Int) 0) (fun k => by rw [if_pos (show (none : Option Int).isNone = true from rfl)]) ?_
    cases s with
    | nil =>
      refine Ev.step (f := fun _ => some ([], none)) (fun k => ?_) ?_
      · simp only [edits_Normal.l0]; rw [if_neg (by simp)]
      · show Ev _ (gap 0 0 0 0, none)
        rw [gap_none]; exact Ev.pure _
    | cons c t =>
      obtain ⟨⟨h1, h2, h3, h4, h5, h6, h7, h8, h9, h10⟩, hv2⟩ := hp
      have hl : (c :: t).length = t.length + 1 := rfl
      have := norm_loop (c :: t) n m hn hm hs t.length 1 [] c.f0 c.f2 (c.f0 + c.f1) (c.f2 + c.f3) (by omega) hv2 (by omega) (by omega) (by omega) (by omega) (by omega) (by omega) (by omega) (by simp)
      have ec : (⟨c.f0, c.f0 + c.f1 - c.f0, c.f2, c.f2 + c.f3 - c.f2⟩ : S53) = ⟨c.f0, c.f1, c.f2, c.f3⟩ := by rw [show c.f0 + c.f1 - c.f0 = c.f1 by omega, show c.f2 + c.f3 - c.f2 = c.f3 by omega]
      have en : nrm (c :: t) 0 0 0 0 = nrm t c.f0 c.f2 (c.f0 + c.f1) (c.f2 + c.f3) := by
        simp only [nrm]
        by_cases q : 0 < c.f0
        · rw [if_pos q, gap_none, List.nil_append]
        · rw [if_neg q, show c.f0 = 0 by omega, show c.f2 = 0 by omega]
      rw [en]
      rw [ec, List.nil_append, List.nil_append, List.drop_one, List.tail_cons] at this
      refine Ev.step (fun k => ?_) this
      have hw : wrap64 ((([] : List S53).length : Int) - 1) = -1 := by rw [w64' (by simp) (by simp)]; simp
      have hw2 : wrap64 (0 + 1) = 1 := by rw [w64' (by omega) (by omega)]; omega
      have hr : rd_T53 (c :: t) 0 = c := rfl
      simp only [edits_Normal.l0, hw, hw2, hr]
      rw [if_pos (by rw [hl]; omega), if_pos (by omega), if_pos (by rw [hl]; omega), if_neg (by omega), if_pos (by simp)]
      rfl
end Go.Proofs.YtecjoofjiockkaaDoor.Pure
namespace Go.Proofs.YtecjoofjiockkaaDoor.Pure
open Go.RowKit Go.Proofs.YtecjoofjiockkaaDoor.Pp Go.Proofs.YtecjoofjiockkaaDoor.Ext Go.Proofs.YtecjoofjiockkaaDoorW.PrintWords Go.Proofs.YtecjoofjiockkaaDoorW.PrintLast Go.Proofs.YtecjoofjiockkaaDoorW.PrintMore
set_option linter.unusedVariables false
set_option linter.unusedSimpArgs false
theorem nrm_valid (n m : Int) : ∀ (s : List S53) (pa pb qa qb a b : Int), validP n m s qa qb → pa ≤ qa → pb ≤ qb → (pa < qa ∨ pb < qb) → a ≤ pa → b ≤ pb → pa - a = pb - b → qa ≤ n → qb ≤ m → validP n m (nrm s pa pb qa qb) a b
  | [], pa, pb, qa, qb, a, b, hv, h1, h2, h3, h4, h5, h6, h7, h8 => by
    have hv' : n - qa = m - qb := hv
    simp only [nrm]
    rw [gap_some h3]
    refine ⟨⟨?_, ?_, ?_, ?_, ?_, ?_, ?_, ?_, ?_, ?_⟩, ?_⟩
    all_goals first | (show n - (pa + (qa - pa)) = m - (pb + (qb - pb)); omega) | (simp only; omega)
  | c :: t, pa, pb, qa, qb, a, b, hv, h1, h2, h3, h4, h5, h6, h7, h8 => by
    obtain ⟨⟨q1, q2, q3, q4, q5, q6, q7, q8, q9, q10⟩, hv2⟩ := hv
    simp only [nrm]
    by_cases q : qa < c.f0
    · rw [if_pos q, gap_some h3]
      refine ⟨⟨?_, ?_, ?_, ?_, ?_, ?_, ?_, ?_, ?_, ?_⟩, ?_⟩
      all_goals first
        | (simp only; omega)
        | (show validP n m (nrm t c.f0 c.f2 (c.f0 + c.f1) (c.f2 + c.f3)) (pa + (qa - pa)) (pb + (qb - pb))
           rw [show pa + (qa - pa) = qa by omega, show pb + (qb - pb) = qb by omega]
           exact nrm_valid n m t _ _ _ _ _ _ hv2 (by omega) (by omega) (by omega) (by omega) (by omega) (by omega) (by omega) (by omega))
    · rw [if_neg q]
      exact nrm_valid n m t _ _ _ _ _ _ hv2 (by omega) (by omega) (by omega) (by omega) (by omega) (by omega) (by omega) (by omega)
theorem nrm_start (c : S53) (t : List S53) (n m : Int) (h : okC n m 0 0 c) : nrm (c :: t) 0 0 0 0 = nrm t c.f0 c.f2 (c.f0 + c.f1) (c.f2 + c.f3) := by
  obtain ⟨q1, q2, q3, q4, q5, q6, q7, q8, q9, q10⟩ := h
  simp only [nrm]
  by_cases q : 0 < c.f0
  · rw [if_pos q, gap_none, List.nil_append]
  · rw [if_neg q, show c.f0 = 0 by omega, show c.f2 = 0 by omega]
theorem nrm_valid0 (n m : Int) (s : List S53) (hv : validP n m s 0 0) : validP n m (nrm s 0 0 0 0) 0 0 := by
  cases s with
  | nil => show validP n m (gap 0 0 0 0) 0 0; rw [gap_none]; exact hv
  | cons c t =>
    obtain ⟨h, hv2⟩ := hv
    rw [nrm_start c t n m h]
    obtain ⟨q1, q2, q3, q4, q5, q6, q7, q8, q9, q10⟩ := h
    exact nrm_valid n m t _ _ _ _ _ _ hv2 (by omega) (by omega) (by omega) (by omega) (by omega) (by omega) (by omega) (by omega)
theorem gap_length (a b x y : Int) : (gap a b x y).length ≤ 1 := by unfold gap; split <;> simp
theorem nrm_length : ∀ (s : List S53) (pa pb qa qb : Int), (nrm s pa pb qa qb).length ≤ s.length + 1
  | [], pa, pb, qa, qb => gap_length _ _ _ _
  | c :: t, pa, pb, qa, qb => by
    simp only [nrm, List.length_cons]
    split
    · have := nrm_length t c.f0 c.f2 (c.f0 + c.f1) (c.f2 + c.f3)
      have := gap_length pa pb qa qb
      rw [List.length_append]; omega
    · have := nrm_length t pa pb (c.f0 + c.f1) (c.f2 + c.f3)
      omega
theorem normS_valid {s L : List S53} {n m : Int} (h : normS s n m = (L, none)) : n ≤ 4194304 ∧ m ≤ 4194304 ∧ validP n m L 0 0 ∧ L.length ≤ s.length + 1 := by
  unfold normS at h
  split at h
  · rename_i hc
    have hv : validS s n m = none := by simpa using hc
    obtain ⟨h1, h2, h3⟩ := validS_none hv
    obtain rfl : nrm s 0 0 0 0 = L := (Prod.mk.inj h).1
    exact ⟨h1, h2, nrm_valid0 n m s h3, nrm_length s 0 0 0 0⟩
  · rename_i hc
    have := (Prod.mk.inj h).2
    rw [this] at hc
    exact absurd rfl hc
theorem runL_run (a b : Int) (ha : 0 ≤ a) (hb : 0 ≤ b) (d : Nat) : ∀ i : Nat, a + (i : Int) + (d : Int) ≤ 4194304 → b + (i : Int) + (d : Int) ≤ 4194304 → runL a b i d = runP (a + (i : Int)) (b + (i : Int)) d := by
  induction d with
  | zero => intro i _ _; rfl
  | succ d ih =>
    intro i h1 h2
    have e1 : wrap64 (a + (i : Int)) = a + (i : Int) := w64' (by omega) (by omega)
    have e2 : wrap64 (b + (i : Int)) = b + (i : Int) := w64' (by omega) (by omega)
    rw [runL, runP, e1, e2, ih (i + 1) (by omega) (by omega), show a + ((i + 1 : Nat) : Int) = a + (i : Int) + 1 by omega, show b + ((i + 1 : Nat) : Int) = b + (i : Int) + 1 by omega]
theorem runL_zero (a b x : Int) (ha : 0 ≤ a) (hb : 0 ≤ b) (hx : a ≤ x) (hx2 : x ≤ 4194304) (hy : b + (x - a) ≤ 4194304) : runL a b 0 (wrap64 (x - a)).toNat = runP a b (x - a).toNat := by
  have e : wrap64 (x - a) = x - a := w64' (by omega) (by omega)
  rw [e, runL_run a b ha hb _ 0 (by omega) (by omega), show a + ((0 : Nat) : Int) = a by omega, show b + ((0 : Nat) : Int) = b by omega]
theorem stay_pairs (n m : Int) (hn : n ≤ 4194304) (hm : m ≤ 4194304) : ∀ (s : List S53) (a b : Int) (out : List S37), validP n m s a b → 0 ≤ a → 0 ≤ b → a ≤ n → b ≤ m → pairsStay n s a b out = out ++ pairsL n s a b
  | [], a, b, out, hv, ha, hb, h1, h2 => by
    have hv' : n - a = m - b := hv
    rw [pairsStay, pairsL, runL_zero a b n ha hb h1 hn (by omega)]
  | c :: t, a, b, out, hv, ha, hb, h1, h2 => by
    obtain ⟨⟨q1, q2, q3, q4, q5, q6, q7, q8, q9, q10⟩, hv2⟩ := hv
    have e1 : wrap64 (c.f0 + c.f1) = c.f0 + c.f1 := w64' (by omega) (by omega)
    have e2 : wrap64 (c.f2 + c.f3) = c.f2 + c.f3 := w64' (by omega) (by omega)
    rw [pairsStay, pairsL, e1, e2, runL_zero a b c.f0 ha hb q4 (by omega) (by omega), stay_pairs n m hn hm t _ _ _ hv2 (by omega) (by omega) (by omega) (by omega), List.append_assoc]
theorem pairs_at (L : List S53) (hL : L.length ≤ 4000000000) (n m : Int) (hn0 : 0 ≤ n) (hm0 : 0 ≤ m) (hn : n ≤ 4194304) (hm : m ≤ 4194304) (hv : validP n m L 0 0) : Ev (fun k => edits_Pairs.f k L n m) (pairsL n L 0 0, none) := by
  have h1 : validS L n m = none := by unfold validS; rw [if_neg (by omega), errP_pos hv]
  have h2 := valid_at L hL n m hn0 hm0
  rw [h1] at h2
  have h3 := pairsL_length n m L 0 0 hv hn0
  have h4 := stay_pairs n m hn hm L 0 0 [] hv (by omega) (by omega) hn0 hm0
  rw [List.nil_append] at h4
  refine Ev.same (fun k => by unfold edits_Pairs.f; rw [if_pos (by omega)]) (Ev.bind h2 (Ev.same (fun k => if_pos rfl) ?_))
  rw [h4]
  exact Ev.same (fun k => if_pos (by omega)) (Ev.pure _)
end Go.Proofs.YtecjoofjiockkaaDoor.Pure
namespace Go.Proofs.YtecjoofjiockkaaDoor.Pure
open Go.RowKit Go.Proofs.YtecjoofjiockkaaDoor.Pp Go.Proofs.YtecjoofjiockkaaDoor.Ext Go.Proofs.YtecjoofjiockkaaDoorW.PrintWords Go.Proofs.YtecjoofjiockkaaDoorW.PrintLast Go.Proofs.YtecjoofjiockkaaDoorW.PrintMore
set_option linter.unusedVariables false
set_option linter.unusedSimpArgs false
abbrev Row := S56
abbrev Hunk := S41
def isOld (r : Row) : Bool := r.f0 == 1 || r.f0 == 2
def isNew (r : Row) : Bool := r.f0 == 1 || r.f0 == 3
def good (r : Row) (e o : Bool) : Bool := (isOld r || isNew r) && line r.f1 && !(isOld r && e) && !(isNew r && o)
def rowsOk : List Row → Bool → Bool → Bool → Bool
  | [], _, _, ch => ch
  | r :: t, e, o, ch => if good r e o = true then rowsOk t (e || (isOld r && !whole r.f1)) (o || (isNew r && !whole r.f1)) (ch || (r.f0 != 1)) else false
def cntOld (l : List Row) : Nat := l.countP isOld
def cntNew (l : List Row) : Nat := l.countP isNew
theorem kinds (r : Row) : (r.f0 = 1 ∧ isOld r = true ∧ isNew r = true) ∨ (r.f0 = 2 ∧ isOld r = true ∧ isNew r = false) ∨ (r.f0 = 3 ∧ isOld r = false ∧ isNew r = true) ∨
    ((r.f0 ≠ 1 ∧ r.f0 ≠ 2 ∧ r.f0 ≠ 3) ∧ isOld r = false ∧ isNew r = false) := by
  by_cases h1 : r.f0 = 1
  · left; simp [isOld, isNew, h1]
  · by_cases h2 : r.f0 = 2
    · right; left; simp [isOld, isNew, h2]
    · by_cases h3 : r.f0 = 3
      · right; right; left; simp [isOld, isNew, h3]
      · right; right; right; simp [isOld, isNew, h1, h2, h3]
def placeOk (a n : Int) : Bool := decide (0 ≤ n ∧ 0 ≤ a ∧ (0 < a ∨ n = 0) ∧ a ≤ 2147483647 ∧ n ≤ 2147483647 - a)
def headOk (s : ByteArray) : Bool := decide (s.size ≤ 4096) && !decide (∃ j, j < s.size ∧ bt s ((j : Nat) : Int) = 10)
def hunkOk (h : Hunk) : Bool := rowsOk h.f5 false false false && decide (h.f1 = cntOld h.f5) && decide (h.f3 = cntNew h.f5) && placeOk h.f0 h.f1 && placeOk h.f2 h.f3 && headOk h.f4
theorem add_at (c : Int) (e : Bool) (s : ByteArray) (hs : s.size ≤ 4000000000) : hunks_side_add.f c e s = some (if e = true then (false, c, e) else (true, wrap64 (c + 1), !whole s)) := by
  unfold hunks_side_add.f
  cases e with
  | true => rfl
  | false => rw [if_neg (by simp), whole_at s hs, if_neg (by simp)]; rfl
theorem p_sides : ∀ (l : List Row) (c d : Nat) (e f ch : Bool), c + l.length ≤ 4000000000 → d + l.length ≤ 4000000000 → (∀ r ∈ l, r.f1.size ≤ 4000000000) →
    ∃ x, sidesF l c e d f ch = some x ∧ x.2.2 = rowsOk l e f ch ∧ (rowsOk l e f ch = true → x.1.1 = ((c + cntOld l : Nat) : Int) ∧ x.2.1.1 = ((d + cntNew l : Nat) : Int))
  | [], c, d, e, f, ch, _, _, _ => ⟨_, rfl, rfl, fun _ => ⟨rfl, rfl⟩⟩
  | r :: t, c, d, e, f, ch, hc, hd, hs => by
    have hr := hs r (List.mem_cons_self)
    have ht : ∀ r ∈ t, r.f1.size ≤ 4000000000 := fun x hx => hs x (List.mem_cons_of_mem _ hx)
    simp only [List.length_cons] at hc hd
    have wc : wrap64 ((c : Int) + 1) = ((c + 1 : Nat) : Int) := w_of (c + 1) _ (by omega) (by omega)
    have wd : wrap64 ((d : Int) + 1) = ((d + 1 : Nat) : Int) := w_of (d + 1) _ (by omega) (by omega)
    unfold sidesF rowsOk good
    rw [line_at _ hr]
    simp only [addIf, add_at _ _ _ hr, Option.bind_some]
    rcases kinds r with ⟨hk, h1, h2⟩ | ⟨hk, h1, h2⟩ | ⟨hk, h1, h2⟩ | ⟨hk, h1, h2⟩
    · rw [h1, h2, hk, if_neg (by omega), if_neg (by omega)]
      cases hl : line r.f1 with
      | false => exact ⟨_, by rw [if_neg (by simp)], by simp, by simp⟩
      | true =>
        cases e with
        | true => exact ⟨_, (by simp; rfl), by simp, by simp⟩
        | false =>
          cases f with
          | true => exact ⟨_, (by simp; rfl), by simp, by simp⟩
          | false =>
            obtain ⟨x, e1, e2, e3⟩ := p_sides t (c + 1) (d + 1) (!whole r.f1) (!whole r.f1) ch (by omega) (by omega) ht
            refine ⟨x, by simpa [wc, wd] using e1, by simpa using e2, fun h => ?_⟩
            have := e3 (by simpa using h)
            unfold cntOld cntNew at this ⊢
            simp only [List.countP_cons, h1, h2, Bool.false_eq_true, if_true, if_false, Nat.add_zero]
            exact ⟨this.1.trans (by congr 1; omega), this.2.trans (by congr 1; omega)⟩
    · rw [h1, h2, hk, if_neg (by omega), if_neg (by omega)]
      cases hl : line r.f1 with
      | false => exact ⟨_, by rw [if_neg (by simp)], by simp, by simp⟩
      | true =>
        cases e with
        | true => exact ⟨_, (by simp; rfl), by simp, by simp⟩
        | false =>
          obtain ⟨x, e1, e2, e3⟩ := p_sides t (c + 1) d (!whole r.f1) f true (by omega) (by omega) ht
          refine ⟨x, by simpa [wc] using e1, by simpa using e2, fun h => ?_⟩
          have := e3 (by simpa using h)
          unfold cntOld cntNew at this ⊢
          simp only [List.countP_cons, h1, h2, Bool.false_eq_true, if_true, if_false, Nat.add_zero]
          exact ⟨this.1.trans (by congr 1; omega), this.2⟩
    · rw [h1, h2, hk, if_neg (by omega), if_neg (by omega)]
      cases hl : line r.f1 with
      | false => exact ⟨_, by rw [if_neg (by simp)], by simp, by simp⟩
      | true =>
        cases f with
        | true => exact ⟨_, (by simp; rfl), by simp, by simp⟩
        | false =>
          obtain ⟨x, e1, e2, e3⟩ := p_sides t c (d + 1) e (!whole r.f1) true (by omega) (by omega) ht
          refine ⟨x, by simpa [wd] using e1, by simpa using e2, fun h => ?_⟩
          have := e3 (by simpa using h)
          unfold cntOld cntNew at this ⊢
          simp only [List.countP_cons, h1, h2, Bool.false_eq_true, if_true, if_false, Nat.add_zero]
          exact ⟨this.1, this.2.trans (by congr 1; omega)⟩
    · rw [h1, h2]
      by_cases c1 : r.f0 < 1
      · exact ⟨_, by rw [if_pos c1], by simp, by simp⟩
      · exact ⟨_, by rw [if_neg c1, if_pos (by omega)], by simp, by simp⟩
theorem p_place (a n : Int) (ha : -9223372036854775808 ≤ a ∧ a ≤ 9223372036854775807) : hunks_place.f a n = some (placeOk a n) := by
  unfold hunks_place.f placeOk
  by_cases h1 : n ≥ 0
  · by_cases h2 : a ≥ 0
    · rw [if_pos h1, if_pos h2]
      have hw : a ≤ 2147483647 → wrap64 (2147483647 - a) = 2147483647 - a := fun h => w64' (by omega) (by omega)
      by_cases h4 : a ≤ 2147483647
      · rw [hw h4]
        by_cases h3 : a > 0
        · rw [if_pos h3, if_pos h4]; congr 1; exact decide_eq_decide.mpr (by omega)
        · rw [if_neg h3]
          by_cases h5 : n = 0
          · rw [if_pos h5, if_pos h4]; congr 1; exact decide_eq_decide.mpr (by omega)
          · rw [if_neg h5]; congr 1; symm; exact decide_eq_false (by omega)
      · rw [if_neg h4, if_pos (by omega)]; congr 1; symm; exact decide_eq_false (by omega)
    · rw [if_pos h1, if_neg h2]; congr 1; symm; exact decide_eq_false (by omega)
  · rw [if_neg h1]; congr 1; symm; exact decide_eq_false (by omega)
structure Small (h : Hunk) : Prop where
  rows : h.f5.length ≤ 1048576
  texts : ∀ r ∈ h.f5, r.f1.size ≤ 1048576
  head : h.f4.size ≤ 1048576
  a : -9223372036854775808 ≤ h.f0 ∧ h.f0 ≤ 9223372036854775807
  b : -9223372036854775808 ≤ h.f2 ∧ h.f2 ≤ 9223372036854775807
theorem p_hunk (h : Hunk) (hs : Small h) : validF h = some (if hunkOk h = true then none else some 100) := by
  have h1 := hs.rows
  obtain ⟨x, e1, e2, e3⟩ := p_sides h.f5 0 0 false false false (by omega) (by omega) (fun r hr => by have := hs.texts r hr; omega)
  unfold validF hunks_Valid.f hunks_sides.f
  rw [if_pos (by omega)]
  rw [show (0 : Int) = ((0 : Nat) : Int) from rfl, e1, Option.map_some, Option.bind_some]
  simp only [e2]
  unfold hunkOk
  cases hr : rowsOk h.f5 false false false with
  | false => rw [if_neg (by simp)]; simp
  | true =>
    obtain ⟨e4, e5⟩ := e3 hr
    rw [Nat.zero_add] at e4 e5
    rw [if_pos rfl, e4, e5, p_place _ _ hs.a, p_place _ _ hs.b, contains_at]
    simp only [Option.bind_some, Bool.true_and]
    by_cases c1 : h.f1 = (cntOld h.f5 : Int)
    · by_cases c2 : h.f3 = (cntNew h.f5 : Int)
      · rw [if_pos c1.symm, if_pos c2.symm, decide_eq_true c1, decide_eq_true c2]
        cases placeOk h.f0 h.f1 with
        | false => simp
        | true =>
          cases placeOk h.f2 h.f3 with
          | false => simp
          | true =>
            unfold headOk
            by_cases c3 : h.f4.size ≤ 4096
            · rw [if_pos rfl, if_pos rfl, if_neg (by omega), decide_eq_true c3]
              cases decide (∃ j, j < h.f4.size ∧ bt h.f4 ((j : Nat) : Int) = 10) <;> simp
            · rw [if_pos rfl, if_pos rfl, if_pos (by omega), decide_eq_false c3]; simp
      · rw [if_pos c1.symm, if_neg (fun h => c2 h.symm), decide_eq_false c2]; simp
    · rw [if_neg (fun h => c1 h.symm), decide_eq_false c1]; simp
theorem rd_row (l : List Row) (i : Nat) : rd_T56 l ((i : Nat) : Int) = l.getD i z56 := by show l.getD ((i : Int)).toNat _ = _; simp
end Go.Proofs.YtecjoofjiockkaaDoor.Pure
namespace Go.Proofs.YtecjoofjiockkaaDoor.Pure
open Go.RowKit Go.Proofs.YtecjoofjiockkaaDoor.Pp Go.Proofs.YtecjoofjiockkaaDoor.Ext Go.Proofs.YtecjoofjiockkaaDoorW.PrintWords Go.Proofs.YtecjoofjiockkaaDoorW.PrintLast Go.Proofs.YtecjoofjiockkaaDoorW.PrintMore
set_option linter.unusedVariables false
set_option linter.unusedSimpArgs false
theorem mem_sum {α : Type} (f : α → Nat) : ∀ (l : List α), ∀ x ∈ l, f x ≤ (l.map f).sum
  | [], _, h => by cases h
  | y :: t, x, h => by
    rw [List.map_cons, List.sum_cons]
    rcases List.mem_cons.mp h with rfl | h
    · omega
    · have := mem_sum f t x h; omega
theorem len_sum {α : Type} (f : α → Nat) (c : Nat) (hf : ∀ x, c ≤ f x) : ∀ (l : List α), c * l.length ≤ (l.map f).sum
  | [] => by simp
  | y :: t => by
    have h1 := len_sum f c hf t
    have h2 := hf y
    rw [List.map_cons, List.sum_cons, List.length_cons, Nat.mul_add]; omega
def rowsSum (l : List Hunk) : Nat := (l.map fun h => h.f5.length).sum
theorem rowsSum_cons (h : Hunk) (t : List Hunk) : rowsSum (h :: t) = h.f5.length + rowsSum t := by unfold rowsSum; simp
theorem rd_hunk (l : List Hunk) (i : Nat) : rd_T41 l ((i : Nat) : Int) = l.getD i z41 := by show l.getD ((i : Int)).toNat _ = _; simp
theorem rd_mem (l : List Hunk) (i : Nat) (hi : i < l.length) : l.getD i z41 ∈ l := by
  rw [List.getD_eq_getElem?_getD, List.getElem?_eq_getElem hi]; exact List.getElem_mem hi
structure Hs (l : List Hunk) : Prop where
  all : ∀ h ∈ l, Small h
  count : l.length ≤ 1048576
  rows : rowsSum l ≤ 1048576
theorem twin_loop (l : List Hunk) (hl : l.length ≤ 1000000000) (hs : ∀ h ∈ l, h.f5.length ≤ 1000000000) (d : Nat) : ∀ (i : Nat) (x : List Hunk), i + d = l.length → x.length = i → Ev (fun k => selvagelaw10_twins.l0 k l x (i : Int)) (x ++ l.drop i) := by
  induction d with
  | zero =>
    intro i x h _
    rw [List.drop_of_length_le (by omega), List.append_nil]
    exact Ev.step (f := fun _ => some x) (fun k => by rw [selvagelaw10_twins.l0, if_neg (by omega)]) (Ev.pure _)
  | succ d ih =>
    intro i x h hx
    have hi : i < l.length := by omega
    have w1 : wrap64 ((i : Int) + 1) = ((i + 1 : Nat) : Int) := w_add i 1 (by omega)
    have hm := hs _ (rd_mem l i hi)
    have hd := ih (i + 1) (x ++ [l.getD i z41]) (by omega) (by rw [List.length_append]; simp; omega)
    rw [drop_by l z41 i hi, show x ++ l.getD i z41 :: l.drop (i + 1) = (x ++ [l.getD i z41]) ++ l.drop (i + 1) by simp]
    refine Ev.step (fun k => ?_) hd
    rw [selvagelaw10_twins.l0, w1, if_pos (by omega), if_pos (by omega), rd_hunk]
    unfold selvagelaw10_twin.f
    rw [if_pos (by rw [List.length_nil]; omega), Option.bind_some, if_pos (by omega)]
    rfl
theorem twins_at (l : List Hunk) (hl : l.length ≤ 1000000000) (hs : ∀ h ∈ l, h.f5.length ≤ 1000000000) : Ev (fun k => selvagelaw10_twins.f k l) l := by
  have := twin_loop l hl hs l.length 0 [] (by omega) rfl
  rw [List.drop_zero, List.nil_append] at this
  exact this
theorem works_60 : selvagelaw10_works.f 60 = some true := by decide +kernel
theorem ev_works : Ev (fun k => selvagelaw10_works.f k) true := Ev.of (fun k => selvagelaw10_works.mono k) works_60
end Go.Proofs.YtecjoofjiockkaaDoor.Pure
namespace Go.Proofs.YtecjoofjiockkaaDoor.Pure
open Go.RowKit Go.Proofs.YtecjoofjiockkaaDoor.Pp Go.Proofs.YtecjoofjiockkaaDoor.Ext Go.Proofs.YtecjoofjiockkaaDoorW.PrintWords Go.Proofs.YtecjoofjiockkaaDoorW.PrintLast Go.Proofs.YtecjoofjiockkaaDoorW.PrintMore
set_option linter.unusedVariables false
set_option linter.unusedSimpArgs false
abbrev Chg := S53
def putL (o : Int) (T : List ByteArray) : List Row := T.map fun t => ⟨o, t⟩
abbrev cut (T : List ByteArray) (a b : Int) : List ByteArray := (T.take b.toNat).drop a.toNat
theorem cut_length (T : List ByteArray) (a b : Int) (ha : 0 ≤ a) (hab : a ≤ b) (hb : b ≤ (T.length : Int)) : ((cut T a b).length : Int) = b - a := by
  unfold cut
  rw [List.length_drop, List.length_take]
  omega
theorem putL_length (o : Int) (T : List ByteArray) : (putL o T).length = T.length := List.length_map _
def rowsG (A B : List ByteArray) : Int → List Chg → Int → List Row
  | a, [], e => putL 1 (cut A a e)
  | a, c :: t, e => putL 1 (cut A a c.f0) ++ (putL 2 (cut A c.f0 (c.f0 + c.f1)) ++ (putL 3 (cut B c.f2 (c.f2 + c.f3)) ++ rowsG A B (c.f0 + c.f1) t e))
def okG (n m e : Int) : List Chg → Int → Int → Prop
  | [], a, b => a ≤ e ∧ e ≤ n ∧ b ≤ m
  | c :: t, a, b => (a ≤ c.f0 ∧ 0 ≤ c.f1 ∧ c.f0 + c.f1 ≤ n ∧ b ≤ c.f2 ∧ 0 ≤ c.f3 ∧ c.f2 + c.f3 ≤ m) ∧ okG n m e t (c.f0 + c.f1) (c.f2 + c.f3)
def dM : List Chg → Int
  | [] => 0
  | c :: t => (c.f3 - c.f1) + dM t
theorem p_put_at (o : Int) (T : List ByteArray) (hT : T.length ≤ 5000000) (d : Nat) : ∀ (i : Nat) (x : List Row), i + d = T.length → x.length + d ≤ 20000000 → Ev (fun k => hunks_rows.l0 k x o T (T.length : Int) (i : Int)) (x ++ putL o (T.drop i)) := by
  induction d with
  | zero =>
    intro i x h _
    rw [List.drop_of_length_le (by omega)]
    exact Ev.step (f := fun _ => some x) (fun k => by rw [hunks_rows.l0, if_neg (by omega)]) (by unfold putL; rw [List.map_nil, List.append_nil]; exact Ev.pure _)
  | succ d ih =>
    intro i x h hx
    have w1 : wrap64 ((i : Int) + 1) = ((i + 1 : Nat) : Int) := w_add i 1 (by omega)
    have hi : i < T.length := by omega
    have h2 := ih (i + 1) (x ++ [⟨o, T.getD i ByteArray.empty⟩]) (by omega) (by simp; omega)
    have e : x ++ putL o (T.drop i) = (x ++ [⟨o, T.getD i ByteArray.empty⟩]) ++ putL o (T.drop (i + 1)) := by
      rw [drop_by T ByteArray.empty i hi]; unfold putL; simp
    rw [e]
    exact Ev.step (fun k => by rw [hunks_rows.l0, if_pos (by omega), if_pos (by omega), if_pos (by omega), if_pos (by omega), rd_nat, w1]) h2
theorem p_put (o : Int) (T : List ByteArray) (hT : T.length ≤ 5000000) (x : List Row) (hx : x.length + T.length ≤ 20000000) : Ev (fun k => hunks_rows.f k x o T) (x ++ putL o T) := by
  have := p_put_at o T hT T.length 0 x (by omega) hx
  rw [List.drop_zero] at this
  exact this
theorem cnt_put (o : Int) (T : List ByteArray) : cntOld (putL o T) = (if o = 1 ∨ o = 2 then T.length else 0) ∧ cntNew (putL o T) = (if o = 1 ∨ o = 3 then T.length else 0) := by
  unfold cntOld cntNew putL
  induction T with
  | nil => simp
  | cons t T ih =>
    obtain ⟨i1, i2⟩ := ih
    rw [List.map_cons, List.countP_cons, List.countP_cons, i1, i2]
    unfold isOld isNew
    constructor
    · by_cases h : o = 1 ∨ o = 2
      · rw [if_pos h, if_pos h, if_pos (by simpa using h)]; rfl
      · rw [if_neg h, if_neg h, if_neg (by simpa using h)]
    · by_cases h : o = 1 ∨ o = 3
      · rw [if_pos h, if_pos h, if_pos (by simpa using h)]; rfl
      · rw [if_neg h, if_neg h, if_neg (by simpa using h)]
theorem old1 (T : List ByteArray) : cntOld (putL 1 T) = T.length := by rw [(cnt_put 1 T).1, if_pos (by simp)]
theorem old2 (T : List ByteArray) : cntOld (putL 2 T) = T.length := by rw [(cnt_put 2 T).1, if_pos (by simp)]
theorem old3 (T : List ByteArray) : cntOld (putL 3 T) = 0 := by rw [(cnt_put 3 T).1, if_neg (by decide)]
theorem new1 (T : List ByteArray) : cntNew (putL 1 T) = T.length := by rw [(cnt_put 1 T).2, if_pos (by simp)]
theorem new2 (T : List ByteArray) : cntNew (putL 2 T) = 0 := by rw [(cnt_put 2 T).2, if_neg (by decide)]
theorem new3 (T : List ByteArray) : cntNew (putL 3 T) = T.length := by rw [(cnt_put 3 T).2, if_pos (by simp)]
theorem cntOld_app (x y : List Row) : cntOld (x ++ y) = cntOld x + cntOld y := List.countP_append
theorem cntNew_app (x y : List Row) : cntNew (x ++ y) = cntNew x + cntNew y := List.countP_append
theorem rows_cnt (A B : List ByteArray) (e : Int) : ∀ (G : List Chg) (a b : Int), okG (A.length : Int) (B.length : Int) e G a b → 0 ≤ a → 0 ≤ b →
    (cntOld (rowsG A B a G e) : Int) = e - a ∧ (cntNew (rowsG A B a G e) : Int) = dM G + (e - a)
  | [], a, b, h, ha, hb => by
    obtain ⟨h1, h2, h3⟩ := h
    have hl := cut_length A a e ha h1 h2
    rw [rowsG, old1, new1, dM]
    omega
  | c :: t, a, b, h, ha, hb => by
    obtain ⟨⟨q1, q2, q3, q4, q5, q6⟩, h2⟩ := h
    have hl1 := cut_length A a c.f0 ha q1 (by omega)
    have hl2 := cut_length A c.f0 (c.f0 + c.f1) (by omega) (by omega) q3
    have hl3 := cut_length B c.f2 (c.f2 + c.f3) (by omega) (by omega) q6
    obtain ⟨i1, i2⟩ := rows_cnt A B e t _ _ h2 (by omega) (by omega)
    rw [rowsG, cntOld_app, cntOld_app, cntOld_app, cntNew_app, cntNew_app, cntNew_app, old1, old2, old3, new1, new2, new3, dM]
    omega
end Go.Proofs.YtecjoofjiockkaaDoor.Pure
namespace Go.Proofs.YtecjoofjiockkaaDoor.Pure
open Go.RowKit Go.Proofs.YtecjoofjiockkaaDoor.Pp Go.Proofs.YtecjoofjiockkaaDoor.Ext Go.Proofs.YtecjoofjiockkaaDoorW.PrintWords Go.Proofs.YtecjoofjiockkaaDoorW.PrintLast Go.Proofs.YtecjoofjiockkaaDoorW.PrintMore
set_option linter.unusedVariables false
set_option linter.unusedSimpArgs false
abbrev HunkT := Int × Int × Int × Int × ByteArray × List Row
def hunkR (st e s2 M : Int) (hd : ByteArray) (R : List Row) : HunkT := ((if e - st > 0 then st + 1 else st), e - st, (if M > 0 then s2 + 1 else s2), M, hd, R)
theorem len_cut (T : List ByteArray) (hT : T.length ≤ 4194304) (a b : Int) : (cut T a b).length ≤ 5000000 := by
  unfold cut; rw [List.length_drop, List.length_take]; omega
theorem len_cut_int (T : List ByteArray) (a b : Int) (ha : 0 ≤ a) (hab : a ≤ b) (hb : b ≤ (T.length : Int)) (x : List Row) (o : Int) : ((x ++ putL o (cut T a b)).length : Int) = (x.length : Int) + (b - a) := by
  rw [List.length_append, putL_length]; have := cut_length T a b ha hab hb; omega
theorem p_last (A : List ByteArray) (hA : A.length ≤ 4194304) (st e a s2 M : Int) (hst : 0 ≤ st ∧ st ≤ e) (hs2 : -1000000000 ≤ s2 ∧ s2 ≤ 1000000000) (hM : -5000000 ≤ M ∧ M ≤ 5000000) (he : e ≤ (A.length : Int)) :
    wrap64 (e - st) = e - st ∧ wrap64 (M + (e - st)) = M + (e - st) ∧ wrap64 (st + 1) = st + 1 ∧ wrap64 (s2 + 1) = s2 + 1 :=
  ⟨w64' (by omega) (by omega), w64' (by omega) (by omega), w64' (by omega) (by omega), w64' (by omega) (by omega)⟩
theorem p_hunk_at (A B : List ByteArray) (hA : A.length ≤ 4194304) (hB : B.length ≤ 4194304) (st e : Int) (hst : 0 ≤ st ∧ st ≤ e) (G : List Chg) (hG : G.length ≤ 4000000000) (s2 : Int) (hs2 : -1000000000 ≤ s2 ∧ s2 ≤ 1000000000) (x1 : Int) (hd : ByteArray) (d : Nat) :
    ∀ (i : Nat) (a b M : Int) (x : List Row), i + d = G.length → okG (A.length : Int) (B.length : Int) e (G.drop i) a b → 0 ≤ a → 0 ≤ b → (-a ≤ M ∧ M ≤ b) → (x.length : Int) ≤ a + b →
    Ev (fun k => hunks_builder_hunk.l0 k st e a G (G.length : Int) (i : Int) A B st x1 s2 M hd x) (hunkR st e s2 (M + dM (G.drop i) + (e - st)) hd (x ++ rowsG A B a (G.drop i) e)) := by
  induction d with
  | zero =>
    intro i a b M x h hok ha hb hM hx
    rw [List.drop_of_length_le (by omega)] at hok ⊢
    obtain ⟨h1, h2, h3⟩ := hok
    obtain ⟨w1, w2, w3, w4⟩ := p_last A hA st e a s2 M hst hs2 (by omega) h2
    have hl := len_cut A hA a e
    have c1 : ¬ (i : Int) < (G.length : Int) := by omega
    refine Ev.step (fun k => by rw [hunks_builder_hunk.l0, if_neg c1, if_pos ha, if_pos h1, if_pos h2]) (Ev.bind (p_put 1 (cut A a e) hl x (by omega)) ?_)
    rw [rowsG, dM, show M + 0 + (e - st) = M + (e - st) by omega]
    refine Ev.same (fun k => ?_) (Ev.pure _)
    rw [w1, w2, w3, w4]
    unfold hunkR
    by_cases c2 : e - st > 0
    · by_cases c3 : M + (e - st) > 0
      · simp only [if_pos c2, if_pos c3]
      · simp only [if_pos c2, if_neg c3]
    · by_cases c3 : M + (e - st) > 0
      · simp only [if_neg c2, if_pos c3]
      · simp only [if_neg c2, if_neg c3]
  | succ d ih =>
    intro i a b M x h hok ha hb hM hx
    have hi : i < G.length := by omega
    obtain ⟨c, hc⟩ : ∃ c, c = rd_T53 G (i : Int) := ⟨_, rfl⟩
    have hdr : G.drop i = c :: G.drop (i + 1) := by rw [hc]; exact drop53 G i hi
    rw [hdr] at hok ⊢
    obtain ⟨⟨q1, q2, q3, q4, q5, q6⟩, h2⟩ := hok
    have c1 : (i : Int) < (G.length : Int) := by omega
    have c0 : 0 ≤ (i : Int) := by omega
    have w1 : wrap64 ((i : Int) + 1) = ((i + 1 : Nat) : Int) := w_add i 1 (by omega)
    have w2 : wrap64 (c.f0 + c.f1) = c.f0 + c.f1 := w64' (by omega) (by omega)
    have w3 : wrap64 (c.f2 + c.f3) = c.f2 + c.f3 := w64' (by omega) (by omega)
    have w4 : wrap64 (c.f3 - c.f1) = c.f3 - c.f1 := w64' (by omega) (by omega)
    have w5 : wrap64 (M + (c.f3 - c.f1)) = M + (c.f3 - c.f1) := w64' (by omega) (by omega)
    have k1 := len_cut_int A a c.f0 ha q1 (by omega) x 1
    have k2 := len_cut_int A c.f0 (c.f0 + c.f1) (by omega) (by omega) q3 (x ++ putL 1 (cut A a c.f0)) 2
    have k3 := len_cut_int B c.f2 (c.f2 + c.f3) (by omega) (by omega) q6 ((x ++ putL 1 (cut A a c.f0)) ++ putL 2 (cut A c.f0 (c.f0 + c.f1))) 3
    have l1 := len_cut A hA a c.f0
    have l2 := len_cut A hA c.f0 (c.f0 + c.f1)
    have l3 := len_cut B hB c.f2 (c.f2 + c.f3)
    have h9 := ih (i + 1) (c.f0 + c.f1) (c.f2 + c.f3) (M + (c.f3 - c.f1)) (((x ++ putL 1 (cut A a c.f0)) ++ putL 2 (cut A c.f0 (c.f0 + c.f1))) ++ putL 3 (cut B c.f2 (c.f2 + c.f3))) (by omega) h2 (by omega) (by omega) (by omega) (by omega)
    have e9 : hunkR st e s2 (M + dM (c :: G.drop (i + 1)) + (e - st)) hd (x ++ rowsG A B a (c :: G.drop (i + 1)) e) = hunkR st e s2 (M + (c.f3 - c.f1) + dM (G.drop (i + 1)) + (e - st)) hd ((((x ++ putL 1 (cut A a c.f0)) ++ putL 2 (cut A c.f0 (c.f0 + c.f1))) ++ putL 3 (cut B c.f2 (c.f2 + c.f3))) ++ rowsG A B (c.f0 + c.f1) (G.drop (i + 1)) e) := by
      rw [dM, rowsG, List.append_assoc, List.append_assoc, List.append_assoc, show M + (c.f3 - c.f1 + dM (G.drop (i + 1))) + (e - st) = M + (c.f3 - c.f1) + dM (G.drop (i + 1)) + (e - st) by omega]
    rw [e9]
    have b1 : c.f0 ≤ (A.length : Int) := by omega
    have b2 : 0 ≤ c.f0 := by omega
    have b3 : c.f0 ≤ c.f0 + c.f1 := by omega
    have b4 : 0 ≤ c.f2 := by omega
    have b5 : c.f2 ≤ c.f2 + c.f3 := by omega
    refine Ev.step (fun k => by rw [hunks_builder_hunk.l0, if_pos c1, if_pos c0, if_pos c1, ← hc, if_pos ha, if_pos q1, if_pos b1, w1, w2, w3, w4, w5]) (Ev.bind (p_put 1 (cut A a c.f0) l1 x (by omega)) ?_)
    refine Ev.same (fun k => by rw [if_pos b2, if_pos b3, if_pos q3]) (Ev.bind (p_put 2 (cut A c.f0 (c.f0 + c.f1)) l2 _ (by omega)) ?_)
    exact Ev.same (fun k => by rw [if_pos b4, if_pos b5, if_pos q6]) (Ev.bind (p_put 3 (cut B c.f2 (c.f2 + c.f3)) l3 _ (by omega)) h9)
end Go.Proofs.YtecjoofjiockkaaDoor.Pure
namespace Go.Proofs.YtecjoofjiockkaaDoor.Pure
open Go.RowKit Go.Proofs.YtecjoofjiockkaaDoor.Pp Go.Proofs.YtecjoofjiockkaaDoor.Ext Go.Proofs.YtecjoofjiockkaaDoorW.PrintWords Go.Proofs.YtecjoofjiockkaaDoorW.PrintLast Go.Proofs.YtecjoofjiockkaaDoorW.PrintMore
set_option linter.unusedVariables false
set_option linter.unusedSimpArgs false
def oneR (st ns : Int) (R : List Row) : HunkT := ((if (cntOld R : Int) > 0 then st + 1 else st), (cntOld R : Int), (if (cntNew R : Int) > 0 then ns + 1 else ns), (cntNew R : Int), (⟨#[]⟩ : ByteArray), R)
def lastE : List Chg → Int → Int
  | [], z => z
  | c :: t, _ => lastE t (c.f0 + c.f1)
theorem lastE_rd : ∀ (G : List Chg) (z : Int), 0 < G.length → lastE G z = (rd_T53 G ((G.length - 1 : Nat) : Int)).f0 + (rd_T53 G ((G.length - 1 : Nat) : Int)).f1
  | [], z, h => absurd h (by simp)
  | [c], z, h => rfl
  | c :: c' :: t, z, h => by
    have := lastE_rd (c' :: t) (c.f0 + c.f1) (by simp)
    rw [lastE, this]
    show _ = ((c :: c' :: t).getD (((c :: c' :: t).length - 1 : Nat) : Int).toNat _).f0 + ((c :: c' :: t).getD (((c :: c' :: t).length - 1 : Nat) : Int).toNat _).f1
    show ((c' :: t).getD (((c' :: t).length - 1 : Nat) : Int).toNat _).f0 + ((c' :: t).getD (((c' :: t).length - 1 : Nat) : Int).toNat _).f1 = _
    rw [Int.toNat_natCast, Int.toNat_natCast, show (c :: c' :: t).length - 1 = ((c' :: t).length - 1) + 1 by simp, List.getD_cons_succ]
def okV (n m : Int) : List Chg → Int → Int → Prop
  | [], a, b => a ≤ n ∧ b ≤ m
  | c :: t, a, b => okC n m a b c ∧ okV n m t (c.f0 + c.f1) (c.f2 + c.f3)
theorem okV_of (n m : Int) : ∀ (s : List Chg) (a b : Int), validP n m s a b → a ≤ n → b ≤ m → okV n m s a b
  | [], a, b, h, h1, h2 => ⟨h1, h2⟩
  | c :: t, a, b, h, h1, h2 => by
    obtain ⟨hc, ht⟩ := h
    refine ⟨hc, okV_of n m t _ _ ht ?_ ?_⟩ <;> (obtain ⟨q1, q2, q3, q4, q5, q6, q7, q8, q9, q10⟩ := hc; omega)
theorem okV_take (n m : Int) : ∀ (s : List Chg) (j : Nat) (a b : Int), okV n m s a b → a ≤ n → b ≤ m → okV n m (s.take j) a b
  | [], j, a, b, h, h1, h2 => by rw [List.take_nil]; exact h
  | c :: t, 0, a, b, h, h1, h2 => ⟨h1, h2⟩
  | c :: t, j + 1, a, b, h, h1, h2 => by
    obtain ⟨hc, ht⟩ := h
    rw [List.take_succ_cons]
    refine ⟨hc, okV_take n m t j _ _ ht ?_ ?_⟩ <;> (obtain ⟨q1, q2, q3, q4, q5, q6, q7, q8, q9, q10⟩ := hc; omega)
theorem okV_drop (n m : Int) : ∀ (s : List Chg) (i : Nat) (a b : Int), okV n m s a b → 0 ≤ a → 0 ≤ b → ∃ a' b', 0 ≤ a' ∧ 0 ≤ b' ∧ okV n m (s.drop i) a' b'
  | s, 0, a, b, h, h1, h2 => ⟨a, b, h1, h2, h⟩
  | [], i + 1, a, b, h, h1, h2 => ⟨a, b, h1, h2, h⟩
  | c :: t, i + 1, a, b, h, h1, h2 => by
    obtain ⟨hc, ht⟩ := h
    rw [List.drop_succ_cons]
    obtain ⟨q1, q2, q3, q4, q5, q6, q7, q8, q9, q10⟩ := hc
    exact okV_drop n m t i _ _ ht (by omega) (by omega)
theorem okV_okG (n m e : Int) (he : e ≤ n) : ∀ (t : List Chg) (a b a0 b0 : Int), okV n m t a b → a0 ≤ a → b0 ≤ b → lastE t a0 ≤ e → (t = [] → a0 ≤ e) → okG n m e t a0 b0
  | [], a, b, a0, b0, h, h1, h2, h3, h4 => by
    obtain ⟨p1, p2⟩ := h
    exact ⟨h3, he, by omega⟩
  | c :: t, a, b, a0, b0, h, h1, h2, h3, h4 => by
    obtain ⟨⟨q1, q2, q3, q4, q5, q6, q7, q8, q9, q10⟩, ht⟩ := h
    refine ⟨⟨by omega, q1, by omega, by omega, q2, by omega⟩, okV_okG n m e he t _ _ _ _ ht (Int.le_refl _) (Int.le_refl _) h3 (fun hn => ?_)⟩
    subst hn
    exact h3
theorem lastE_le (n m : Int) : ∀ (t : List Chg) (a b z : Int), okV n m t a b → z ≤ n → lastE t z ≤ n
  | [], a, b, z, h, hz => hz
  | c :: t, a, b, z, h, hz => by
    obtain ⟨⟨q1, q2, q3, q4, q5, q6, q7, q8, q9, q10⟩, ht⟩ := h
    exact lastE_le n m t _ _ _ ht (by omega)
theorem lastE_ge (n m : Int) : ∀ (t : List Chg) (a b z : Int), okV n m t a b → z ≤ a → z ≤ lastE t z
  | [], a, b, z, h, hz => Int.le_refl _
  | c :: t, a, b, z, h, hz => by
    obtain ⟨⟨q1, q2, q3, q4, q5, q6, q7, q8, q9, q10⟩, ht⟩ := h
    have := lastE_ge n m t _ _ (c.f0 + c.f1) ht (Int.le_refl _)
    rw [lastE]
    omega
end Go.Proofs.YtecjoofjiockkaaDoor.Pure
namespace Go.Proofs.YtecjoofjiockkaaDoor.Pure
open Go.RowKit Go.Proofs.YtecjoofjiockkaaDoor.Pp Go.Proofs.YtecjoofjiockkaaDoor.Ext Go.Proofs.YtecjoofjiockkaaDoorW.PrintWords Go.Proofs.YtecjoofjiockkaaDoorW.PrintLast Go.Proofs.YtecjoofjiockkaaDoorW.PrintMore
set_option linter.unusedVariables false
set_option linter.unusedSimpArgs false
def oldT (l : List Row) : List ByteArray := (l.filter isOld).map (·.f1)
def newT (l : List Row) : List ByteArray := (l.filter isNew).map (·.f1)
theorem oldT_cons (r : Row) (t : List Row) : oldT (r :: t) = (if isOld r = true then [r.f1] else []) ++ oldT t := by
  unfold oldT
  rw [List.filter_cons]
  split <;> simp
theorem newT_cons (r : Row) (t : List Row) : newT (r :: t) = (if isNew r = true then [r.f1] else []) ++ newT t := by
  unfold newT
  rw [List.filter_cons]
  split <;> simp
theorem sides_loop (l : List Row) (hl : l.length ≤ 1000000000) (d : Nat) : ∀ (i : Nat) (x y : List ByteArray), i + d = l.length → x.length ≤ i → y.length ≤ i →
    Ev (fun k => hunks_Sides.l0 k x y l (l.length : Int) (i : Int)) (x ++ oldT (l.drop i), y ++ newT (l.drop i)) := by
  induction d with
  | zero =>
    intro i x y h _ _
    rw [List.drop_of_length_le (by omega)]
    exact Ev.step (f := fun _ => some (x, y)) (fun k => by rw [hunks_Sides.l0, if_neg (by omega)]) (by simpa [oldT, newT] using Ev.pure _)
  | succ d ih =>
    intro i x y h hx hy
    have hi : i < l.length := by omega
    have w1 : wrap64 ((i : Int) + 1) = ((i + 1 : Nat) : Int) := w_add i 1 (by omega)
    have hrd := rd_row l i
    rw [drop_by l z56 i hi]
    generalize l.getD i z56 = r at hrd ⊢
    rw [oldT_cons, newT_cons]
    rcases kinds r with ⟨hk, h1, h2⟩ | ⟨hk, h1, h2⟩ | ⟨hk, h1, h2⟩ | ⟨⟨hk1, hk2, hk3⟩, h1, h2⟩
    · have := ih (i + 1) (x ++ [r.f1]) (y ++ [r.f1]) (by omega) (by simp; omega) (by simp; omega)
      rw [h1, h2, if_pos rfl, ← List.append_assoc, ← List.append_assoc]
      exact Ev.step (fun k => by rw [hunks_Sides.l0, if_pos (by omega), if_pos (by omega), if_pos (by omega), hrd, if_pos hk]) (Ev.step (fun k => by rw [hunks_Sides.j1, if_pos rfl, if_pos (by omega), Option.bind_some, if_pos hk, if_pos (by omega), w1]) this)
    · have := ih (i + 1) (x ++ [r.f1]) y (by omega) (by simp; omega) (by omega)
      have hb : (r.f0 == 2) = true := by simp [hk]
      rw [h1, h2, if_pos rfl, if_neg (by simp), List.nil_append, ← List.append_assoc]
      exact Ev.step (fun k => by rw [hunks_Sides.l0, if_pos (by omega), if_pos (by omega), if_pos (by omega), hrd, if_neg (by omega), hb]) (Ev.step (fun k => by rw [hunks_Sides.j1, if_pos rfl, if_pos (by omega), Option.bind_some, if_neg (by omega), if_neg (by omega), w1]) this)
    · have := ih (i + 1) x (y ++ [r.f1]) (by omega) (by omega) (by simp; omega)
      have hb : (r.f0 == 2) = false := by simp [hk]
      rw [h1, h2, if_pos rfl, if_neg (by simp), List.nil_append, ← List.append_assoc]
      exact Ev.step (fun k => by rw [hunks_Sides.l0, if_pos (by omega), if_pos (by omega), if_pos (by omega), hrd, if_neg (by omega), hb]) (Ev.step (fun k => by rw [hunks_Sides.j1, if_neg (by simp), if_neg (by omega), if_pos hk, if_pos (by omega), w1]) this)
    · have := ih (i + 1) x y (by omega) (by omega) (by omega)
      have hb : (r.f0 == 2) = false := by simp [hk2]
      rw [h1, h2, if_neg (by simp), List.nil_append, List.nil_append]
      exact Ev.step (fun k => by rw [hunks_Sides.l0, if_pos (by omega), if_pos (by omega), if_pos (by omega), hrd, if_neg hk1, hb]) (Ev.step (fun k => by rw [hunks_Sides.j1, if_neg (by simp), if_neg hk1, if_neg hk3, w1]) this)
theorem sides_at (a0 a1 a2 a3 : Int) (a4 : ByteArray) (l : List Row) (hl : l.length ≤ 1000000000) : Ev (fun k => hunks_Sides.f k a0 a1 a2 a3 a4 l) (oldT l, newT l) := by
  have := sides_loop l hl l.length 0 [] [] (by omega) (by simp) (by simp)
  rw [List.drop_zero] at this
  exact this
def stIf (a : Int) (n : Nat) : Int := if 0 < n then wrap64 (a + 1) else a
end Go.Proofs.YtecjoofjiockkaaDoor.Pure
namespace Go.Proofs.YtecjoofjiockkaaDoor.Pure
open Go.RowKit Go.Proofs.YtecjoofjiockkaaDoor.Pp Go.Proofs.YtecjoofjiockkaaDoor.Ext Go.Proofs.YtecjoofjiockkaaDoorW.PrintWords Go.Proofs.YtecjoofjiockkaaDoorW.PrintLast Go.Proofs.YtecjoofjiockkaaDoorW.PrintMore
set_option linter.unusedVariables false
set_option linter.unusedSimpArgs false
structure Pc where
  st : Int
  G : List Chg
  e : Int
def gr (c n : Int) : Int → List Chg → Int → List Chg → List Pc
  | st, G, last, [] => [⟨st, G, if last + c < n then last + c else n⟩]
  | st, G, last, x :: t => if x.f0 - last ≤ 2 * c then gr c n st (G ++ [x]) (x.f0 + x.f1) t else ⟨st, G, last + c⟩ :: gr c n (x.f0 - c) [x] (x.f0 + x.f1) t
def grs (c s n : Int) : List Chg → List Pc
  | [] => []
  | x :: t => gr c n (if x.f0 - c < s then s else x.f0 - c) [x] (x.f0 + x.f1) t
theorem cut_get? (T : List ByteArray) (a b : Int) (i : Nat) : (cut T a b)[i]? = if a.toNat + i < b.toNat then T[a.toNat + i]? else none := by
  unfold cut
  rw [List.getElem?_drop, List.getElem?_take]
theorem cut_app (T : List ByteArray) (a b c : Int) (ha : 0 ≤ a) (hab : a ≤ b) (hbc : b ≤ c) (hc : c ≤ (T.length : Int)) : cut T a b ++ cut T b c = cut T a c := by
  have h1 := cut_length T a b ha hab (by omega)
  apply List.ext_getElem?
  intro i
  rw [List.getElem?_append, cut_get? T a c]
  by_cases h : i < (cut T a b).length
  · rw [if_pos h, cut_get?, if_pos (by omega), if_pos (by omega)]
  · rw [if_neg h, cut_get?]
    by_cases h2 : a.toNat + i < c.toNat
    · rw [if_pos (by omega), if_pos h2]
      congr 1
      omega
    · rw [if_neg (by omega), if_neg h2]
theorem cut_self (T : List ByteArray) (a : Int) : cut T a a = [] := by
  unfold cut
  rw [List.drop_eq_nil_iff, List.length_take]
  omega
def chgR (A B : List ByteArray) (x : Chg) : List Row := putL 2 (cut A x.f0 (x.f0 + x.f1)) ++ putL 3 (cut B x.f2 (x.f2 + x.f3))
theorem rowsG_cons (A B : List ByteArray) (a e : Int) (x : Chg) (t : List Chg) : rowsG A B a (x :: t) e = putL 1 (cut A a x.f0) ++ (chgR A B x ++ rowsG A B (x.f0 + x.f1) t e) := by
  rw [rowsG]; unfold chgR; rw [List.append_assoc]
def lastB : List Chg → Int → Int
  | [], z => z
  | c :: t, _ => lastB t (c.f2 + c.f3)
theorem lastE_app (x : Chg) : ∀ (G : List Chg) (z : Int), lastE (G ++ [x]) z = x.f0 + x.f1
  | [], z => rfl
  | c :: t, z => lastE_app x t _
theorem lastB_app (x : Chg) : ∀ (G : List Chg) (z : Int), lastB (G ++ [x]) z = x.f2 + x.f3
  | [], z => rfl
  | c :: t, z => lastB_app x t _
theorem lastB_dM (n m : Int) : ∀ (G : List Chg) (a b : Int), okV n m G a b → lastB G b - b = dM G + (lastE G a - a)
  | [], a, b, h => by show b - b = 0 + (a - a); omega
  | c :: t, a, b, h => by
    obtain ⟨⟨q1, q2, q3, q4, q5, q6, q7, q8, q9, q10⟩, ht⟩ := h
    have := lastB_dM n m t _ _ ht
    show lastB t (c.f2 + c.f3) - b = ((c.f3 - c.f1) + dM t) + (lastE t (c.f0 + c.f1) - a)
    omega
theorem lastB_le (n m : Int) : ∀ (G : List Chg) (a b : Int), okV n m G a b → b ≤ lastB G b ∧ lastB G b ≤ m ∧ a ≤ lastE G a ∧ lastE G a ≤ n
  | [], a, b, h => ⟨Int.le_refl _, h.2, Int.le_refl _, h.1⟩
  | c :: t, a, b, h => by
    obtain ⟨⟨q1, q2, q3, q4, q5, q6, q7, q8, q9, q10⟩, ht⟩ := h
    have := lastB_le n m t _ _ ht
    show b ≤ lastB t (c.f2 + c.f3) ∧ lastB t (c.f2 + c.f3) ≤ m ∧ a ≤ lastE t (c.f0 + c.f1) ∧ lastE t (c.f0 + c.f1) ≤ n
    omega
theorem okV_snoc (n m : Int) (x : Chg) : ∀ (G : List Chg) (a b : Int), okV n m G a b → okC n m (lastE G a) (lastB G b) x → okV n m (G ++ [x]) a b
  | [], a, b, h, hx => ⟨hx, by obtain ⟨q1, q2, q3, q4, q5, q6, q7, q8, q9, q10⟩ := hx; exact ⟨by omega, by omega⟩⟩
  | c :: t, a, b, h, hx => ⟨h.1, okV_snoc n m x t _ _ h.2 hx⟩
end Go.Proofs.YtecjoofjiockkaaDoor.Pure
namespace Go.Proofs.YtecjoofjiockkaaDoor.Pure
open Go.RowKit Go.Proofs.YtecjoofjiockkaaDoor.Pp Go.Proofs.YtecjoofjiockkaaDoor.Ext Go.Proofs.YtecjoofjiockkaaDoorW.PrintWords Go.Proofs.YtecjoofjiockkaaDoorW.PrintLast Go.Proofs.YtecjoofjiockkaaDoorW.PrintMore
set_option linter.unusedVariables false
set_option linter.unusedSimpArgs false
def nb (r : Row) : Bool := r.f0 == 1
def pcs (hd : ByteArray) (a b : Int) (l : List Row) : Hunk := ⟨stIf a (cntOld l), (cntOld l : Int), stIf b (cntNew l), (cntNew l : Int), hd, l⟩
def nsOf (st : Int) (G : List Chg) : Int := match G with
  | [] => 0
  | x :: _ => x.f2 - (x.f0 - st)
def hk (A B : List ByteArray) (p : Pc) : Hunk := pcs ⟨#[]⟩ p.st (nsOf p.st p.G) (rowsG A B p.st p.G p.e)
theorem put_nb (o : Int) (T : List ByteArray) (ho : o ≠ 1) : ∀ r ∈ putL o T, nb r = false := fun r hr => by
  obtain ⟨t, _, rfl⟩ := List.mem_map.mp hr
  unfold nb; simpa using ho
theorem chg_nb (A B : List ByteArray) (x : Chg) : ∀ r ∈ chgR A B x, nb r = false := fun r hr => by
  unfold chgR at hr
  rcases List.mem_append.mp hr with h | h
  · exact put_nb 2 _ (by decide) r h
  · exact put_nb 3 _ (by decide) r h
theorem chg_len (A B : List ByteArray) (n m a b : Int) (hn : n = (A.length : Int)) (hm : m = (B.length : Int)) (ha : 0 ≤ a) (hb : 0 ≤ b) (x : Chg) (h : okC n m a b x) : chgR A B x ≠ [] := by
  obtain ⟨q1, q2, q3, q4, q5, q6, q7, q8, q9, q10⟩ := h
  subst hn hm
  have l1 := cut_length A x.f0 (x.f0 + x.f1) (by omega) (by omega) (by omega)
  have l2 := cut_length B x.f2 (x.f2 + x.f3) (by omega) (by omega) (by omega)
  intro e
  have := congrArg List.length e
  unfold chgR at this
  rw [List.length_append, putL_length, putL_length, List.length_nil] at this
  omega
theorem ns_snoc (st : Int) (G : List Chg) (hG : G ≠ []) (x : Chg) : nsOf st (G ++ [x]) = nsOf st G := by
  cases G with
  | nil => exact absurd rfl hG
  | cons y t => rfl
end Go.Proofs.YtecjoofjiockkaaDoor.Pure
namespace Go.Proofs.YtecjoofjiockkaaDoor.Pure
open Go.RowKit Go.Proofs.YtecjoofjiockkaaDoor.Pp Go.Proofs.YtecjoofjiockkaaDoor.Ext Go.Proofs.YtecjoofjiockkaaDoorW.PrintWords Go.Proofs.YtecjoofjiockkaaDoorW.PrintLast Go.Proofs.YtecjoofjiockkaaDoorW.PrintMore
set_option linter.unusedVariables false
set_option linter.unusedSimpArgs false
def hunkOf (R : HunkT) : Hunk := ⟨R.1, R.2.1, R.2.2.1, R.2.2.2.1, R.2.2.2.2.1, R.2.2.2.2.2⟩
theorem rd_chg (L : List Chg) (i : Nat) : rd_T53 L (i : Int) = L.getD i z53 := by show L.getD ((i : Int)).toNat _ = _; simp
theorem grp (L : List Chg) (i j : Nat) (hij : i < j) (hj : j ≤ L.length) : ∃ c t, (L.take ((j : Nat) : Int).toNat).drop ((i : Nat) : Int).toNat = c :: t ∧ (c :: t).length ≤ L.length := by
  obtain ⟨g, hg⟩ : ∃ g, g = (L.take ((j : Nat) : Int).toNat).drop ((i : Nat) : Int).toNat := ⟨_, rfl⟩
  have hl : g.length = j - i := by rw [hg, List.length_drop, List.length_take, Int.toNat_natCast, Int.toNat_natCast]; omega
  rw [← hg]
  cases g with
  | nil => simp at hl; omega
  | cons c t => exact ⟨c, t, rfl, by omega⟩
theorem okV_at (n m : Int) : ∀ (s : List Chg) (i : Nat) (a b : Int), okV n m s a b → 0 ≤ a → 0 ≤ b → (h : i < s.length) → 0 ≤ (rd_T53 s (i : Int)).f0 ∧ 0 ≤ (rd_T53 s (i : Int)).f1 ∧ (rd_T53 s (i : Int)).f0 + (rd_T53 s (i : Int)).f1 ≤ n := by
  intro s i a b h ha hb hi
  obtain ⟨a', b', h1, h2, h3⟩ := okV_drop n m s i a b h ha hb
  rw [drop53 s i hi] at h3
  obtain ⟨⟨q1, q2, q3, q4, q5, q6, q7, q8, q9, q10⟩, _⟩ := h3
  exact ⟨by omega, q1, by omega⟩
theorem gap_at (n f0 p0 p1 c : Int) (hn : n ≤ 4194304) (h1 : 0 ≤ f0 ∧ f0 ≤ n) (h2 : 0 ≤ p0 ∧ 0 ≤ p1 ∧ p0 + p1 ≤ n) (hc : 0 ≤ c ∧ c ≤ 2147483647) :
    wrap64 (wrap64 (f0 - p0) - p1) = f0 - (p0 + p1) ∧ wrap64 (f0 - wrap64 (p0 + p1)) = f0 - (p0 + p1) ∧ wrap64 (2 * c) = 2 * c := by
  have w1 : wrap64 (f0 - p0) = f0 - p0 := w64' (by omega) (by omega)
  have w2 : wrap64 (p0 + p1) = p0 + p1 := w64' (by omega) (by omega)
  rw [w1, w2]
  refine ⟨?_, w64' (by omega) (by omega), w64' (by omega) (by omega)⟩
  rw [w64' (by omega) (by omega)]
  omega
structure Fine (l : List Hunk) (u : Nat) : Prop where
  len : l.length ≤ u
  rows : ∀ h ∈ l, h.f5.length ≤ 4000000000
theorem Fine.snoc {l : List Hunk} {u : Nat} (h : Fine l u) {R : HunkT} (hR : R.2.2.2.2.2.length ≤ 4000000000) : Fine (l ++ [hunkOf R]) (u + 1) := by
  refine ⟨by have := h.len; simp; omega, fun x hx => ?_⟩
  rcases List.mem_append.mp hx with hx | hx
  · exact h.rows x hx
  · obtain rfl : x = hunkOf R := by simpa using hx
    exact hR
end Go.Proofs.YtecjoofjiockkaaDoor.Pure
namespace Go.Proofs.YtecjoofjiockkaaDoor.Pure
open Go.RowKit Go.Proofs.YtecjoofjiockkaaDoor.Pp Go.Proofs.YtecjoofjiockkaaDoor.Ext Go.Proofs.YtecjoofjiockkaaDoorW.PrintWords Go.Proofs.YtecjoofjiockkaaDoorW.PrintLast Go.Proofs.YtecjoofjiockkaaDoorW.PrintMore
set_option linter.unusedVariables false
set_option linter.unusedSimpArgs false
theorem txt_size (A : List ByteArray) (hs : ∀ s ∈ A, s.size ≤ 4000000000) (z : Int) (h0 : 0 ≤ z) (h1 : z < (A.length : Int)) : (rdOf ByteArray.empty A z).size ≤ 4000000000 := by
  obtain ⟨u, rfl⟩ := Int.eq_ofNat_of_zero_le h0
  rw [rd_nat]
  have hu : u < A.length := by omega
  refine hs _ ?_
  rw [List.getD_eq_getElem?_getD, List.getElem?_eq_getElem hu]
  exact List.getElem_mem hu
end Go.Proofs.YtecjoofjiockkaaDoor.Pure
namespace Go.Proofs.YtecjoofjiockkaaDoor.Pure
open Go.RowKit Go.Proofs.YtecjoofjiockkaaDoor.Pp Go.Proofs.YtecjoofjiockkaaDoor.Ext Go.Proofs.YtecjoofjiockkaaDoorW.PrintWords Go.Proofs.YtecjoofjiockkaaDoorW.PrintLast Go.Proofs.YtecjoofjiockkaaDoorW.PrintMore
set_option linter.unusedVariables false
set_option linter.unusedSimpArgs false
def stOf (c : Int) (G : List Chg) : Int := match G with
  | [] => 0
  | x :: _ => if x.f0 - c < 0 then 0 else x.f0 - c
def eOf (c n le : Int) : Int := if le + c < n then le + c else n
theorem ends_is (n f0 le ctx : Int) (h0 : 0 ≤ ctx ∧ ctx ≤ 2147483647) (hf : 0 ≤ f0 ∧ f0 ≤ n) (hl : f0 ≤ le ∧ le ≤ n) (hn : n ≤ 4194304) :
    mx (wrap64 (f0 - ctx)) 0 = (if f0 - ctx < 0 then 0 else f0 - ctx) ∧ wrap64 (n - le) = n - le ∧ wrap64 (le + ctx) = le + ctx ∧ (ctx < n - le → le + ctx = eOf ctx n le) ∧ (¬ ctx < n - le → n = eOf ctx n le) ∧
      0 ≤ (if f0 - ctx < 0 then 0 else f0 - ctx) ∧ (if f0 - ctx < 0 then 0 else f0 - ctx) ≤ f0 ∧ le ≤ eOf ctx n le ∧ eOf ctx n le ≤ n := by
  have w1 : wrap64 (f0 - ctx) = f0 - ctx := w64' (by omega) (by omega)
  unfold eOf
  refine ⟨?_, w64' (by omega) (by omega), w64' (by omega) (by omega), fun h => by rw [if_pos (by omega)], fun h => by rw [if_neg (by omega)], ?_, ?_, ?_, ?_⟩
  · rw [w1]; rfl
  all_goals (split <;> omega)
theorem hunkOf_one (st ns : Int) (R : List Row) (h1 : -1000000000 ≤ st ∧ st ≤ 1000000000) (h2 : -1000000000 ≤ ns ∧ ns ≤ 1000000000) : hunkOf (oneR st ns R) = pcs ⟨#[]⟩ st ns R := by
  unfold hunkOf oneR pcs stIf
  have w1 : wrap64 (st + 1) = st + 1 := w64' (by omega) (by omega)
  have w2 : wrap64 (ns + 1) = ns + 1 := w64' (by omega) (by omega)
  rw [w1, w2]
  by_cases a : 0 < cntOld R <;> by_cases b : 0 < cntNew R <;> simp [a, b]
theorem builder_is (A B : List ByteArray) (hA : A.length ≤ 4194304) (hB : B.length ≤ 4194304) (c : Chg) (t : List Chg) (hlen : (c :: t).length ≤ 4000000000) (a b : Int) (hv : okV (A.length : Int) (B.length : Int) (c :: t) a b) (ha : 0 ≤ a) (hb : 0 ≤ b) (ctx : Int) (h0 : 0 ≤ ctx ∧ ctx ≤ 2147483647) :
    ∃ R : HunkT, Ev (fun k => hunks_builder_hunk.f k A B (c :: t) ctx) R ∧ hunkOf R = hk A B ⟨stOf ctx (c :: t), c :: t, eOf ctx (A.length : Int) (lastE (c :: t) 0)⟩ := by
  obtain ⟨⟨q1, q2, q3, q4, q5, q6, q7, q8, q9, q10⟩, ht⟩ := hv
  have g1 := lastE_ge _ _ t _ _ (c.f0 + c.f1) ht (Int.le_refl _)
  have g2 := lastE_le _ _ t _ _ (c.f0 + c.f1) ht (by omega)
  have hle := lastE_rd (c :: t) 0 (by simp)
  obtain ⟨le, hled⟩ : ∃ le, le = lastE t (c.f0 + c.f1) := ⟨_, rfl⟩
  have hle2 : (rd_T53 (c :: t) (((c :: t).length - 1 : Nat) : Int)).f0 + (rd_T53 (c :: t) (((c :: t).length - 1 : Nat) : Int)).f1 = le := by rw [← hle, hled]; rfl
  have hle3 : lastE (c :: t) 0 = le := hled.symm
  rw [← hled] at g1 g2
  rw [hle3]
  obtain ⟨e1, e2, e3, e4, e5, e7, e8, e9, e10⟩ := ends_is (A.length : Int) c.f0 le ctx h0 (by omega) (by omega) (by omega)
  show ∃ R : HunkT, _ ∧ hunkOf R = pcs _ (if c.f0 - ctx < 0 then 0 else c.f0 - ctx) (c.f2 - (c.f0 - (if c.f0 - ctx < 0 then 0 else c.f0 - ctx))) (rowsG A B (if c.f0 - ctx < 0 then 0 else c.f0 - ctx) (c :: t) (eOf ctx (A.length : Int) le))
  generalize (if c.f0 - ctx < 0 then 0 else c.f0 - ctx) = st at e1 e7 e8 ⊢
  generalize eOf ctx (A.length : Int) le = e at e4 e5 e9 e10 ⊢
  have hok : okG (A.length : Int) (B.length : Int) e (c :: t) st 0 := ⟨⟨e8, q1, by omega, by omega, q2, by omega⟩, okV_okG _ _ e e10 t _ _ _ _ ht (Int.le_refl _) (Int.le_refl _) (by rw [← hled]; exact e9) (fun hn => by subst hn; rw [hled] at e9; exact e9)⟩
  have n1 : wrap64 (c.f0 - st) = c.f0 - st := w64' (by omega) (by omega)
  have n2 : wrap64 (c.f2 - (c.f0 - st)) = c.f2 - (c.f0 - st) := w64' (by omega) (by omega)
  have hP := p_hunk_at A B hA hB st e ⟨e7, by omega⟩ (c :: t) hlen (c.f2 - (c.f0 - st)) (by omega) 0 (⟨#[]⟩ : ByteArray) (c :: t).length 0 st 0 0 [] (by omega) (by rw [List.drop_zero]; exact hok) e7 (by omega) (by omega) (by simp; omega)
  rw [List.drop_zero, List.nil_append] at hP
  obtain ⟨r1, r2⟩ := rows_cnt A B e (c :: t) st 0 hok e7 (by omega)
  have he : hunkR st e (c.f2 - (c.f0 - st)) (0 + dM (c :: t) + (e - st)) (⟨#[]⟩ : ByteArray) (rowsG A B st (c :: t) e) = oneR st (c.f2 - (c.f0 - st)) (rowsG A B st (c :: t) e) := by
    unfold hunkR oneR
    rw [r1, r2, show 0 + dM (c :: t) + (e - st) = dM (c :: t) + (e - st) by omega]
  have l0 : (0 : Int) < ((c :: t).length : Int) := by simp
  have l1 : wrap64 (((c :: t).length : Int) - 1) = (((c :: t).length - 1 : Nat) : Int) := by rw [w64' (by omega) (by omega)]; omega
  have l2 : (0 : Int) ≤ (((c :: t).length - 1 : Nat) : Int) := by omega
  have l3 : (((c :: t).length - 1 : Nat) : Int) < ((c :: t).length : Int) := by omega
  have l4 : wrap64 le = le := w64' (by omega) (by omega)
  refine ⟨oneR st (c.f2 - (c.f0 - st)) (rowsG A B st (c :: t) e), ?_, hunkOf_one _ _ _ (by omega) (by omega)⟩
  rw [he] at hP
  have hJ : Ev (fun k => hunks_builder_hunk.j0 k (c :: t) st e A B c.f0 c.f1 c.f2 c.f3) (oneR st (c.f2 - (c.f0 - st)) (rowsG A B st (c :: t) e)) :=
    Ev.step (fun k => by rw [hunks_builder_hunk.j0, n1, n2]; rfl) hP
  refine Ev.same (fun k => ?_) hJ
  unfold hunks_builder_hunk.f
  rw [if_pos l0, l1, if_pos l2, if_pos l3, hle2, l4, e2]
  show (if ctx < (A.length : Int) - le then hunks_builder_hunk.j0 k (c :: t) (mx (wrap64 (c.f0 - ctx)) 0) (wrap64 (le + ctx)) A B c.f0 c.f1 c.f2 c.f3 else hunks_builder_hunk.j0 k (c :: t) (mx (wrap64 (c.f0 - ctx)) 0) (A.length : Int) A B c.f0 c.f1 c.f2 c.f3) = _
  by_cases hc : ctx < (A.length : Int) - le
  · rw [if_pos hc, e1, e3, e4 hc]
  · rw [if_neg hc, e1, e5 hc]
theorem mid_snoc (L : List Chg) (i j : Nat) (hij : i ≤ j) (hj : j < L.length) : (L.take (j + 1)).drop i = (L.take j).drop i ++ [rd_T53 L (j : Int)] := by
  rw [List.take_succ_eq_append_getElem hj, List.drop_append_of_le_length (by rw [List.length_take]; omega), rd_chg, List.getD_eq_getElem?_getD, List.getElem?_eq_getElem hj]; rfl
theorem mid_ne (L : List Chg) (i j : Nat) (hij : i < j) (hj : j ≤ L.length) : ∃ c t, (L.take j).drop i = c :: t ∧ (c :: t).length ≤ L.length := by
  have := grp L i j hij hj
  rw [Int.toNat_natCast, Int.toNat_natCast] at this
  exact this
theorem mid_last (L : List Chg) (i j : Nat) (hij : i < j) (hj : j ≤ L.length) : lastE ((L.take j).drop i) 0 = (rd_T53 L ((j - 1 : Nat) : Int)).f0 + (rd_T53 L ((j - 1 : Nat) : Int)).f1 := by
  obtain ⟨u, rfl⟩ : ∃ u, j = u + 1 := ⟨j - 1, by omega⟩
  rw [mid_snoc L i u (by omega) (by omega), lastE_app]; rfl
theorem stOf_snoc (c : Int) (G : List Chg) (hG : G ≠ []) (x : Chg) : stOf c (G ++ [x]) = stOf c G := by
  cases G with
  | nil => exact absurd rfl hG
  | cons y t => rfl
theorem groups_is (A B : List ByteArray) (hA : A.length ≤ 4194304) (hB : B.length ≤ 4194304) (L : List Chg) (hL : L.length ≤ 4000000000) (hv : okV (A.length : Int) (B.length : Int) L 0 0) (ctx : Int) (h0 : 0 ≤ ctx ∧ ctx ≤ 2147483647) (d : Nat) :
    ∀ (i j : Nat) (out : List Hunk), i < j → j + d = L.length → out.length ≤ i →
    Ev (fun k => hunks_Build.l2 k L ctx out (i : Int) (j : Int) A B) (out ++ (gr ctx (A.length : Int) (stOf ctx ((L.take j).drop i)) ((L.take j).drop i) (lastE ((L.take j).drop i) 0) (L.drop j)).map (hk A B), none) := by
  have hone : ∀ i j : Nat, i < j → j ≤ L.length → ∃ R : HunkT, Ev (fun k => hunks_builder_hunk.f k A B ((L.take ((j : Nat) : Int).toNat).drop ((i : Nat) : Int).toNat) ctx) R ∧ hunkOf R = hk A B ⟨stOf ctx ((L.take j).drop i), (L.take j).drop i, eOf ctx (A.length : Int) (lastE ((L.take j).drop i) 0)⟩ := by
    intro i j hij hj
    rw [Int.toNat_natCast, Int.toNat_natCast]
    have hv1 := okV_take _ _ L j 0 0 hv (by omega) (by omega)
    obtain ⟨a, b, ha, hb, hv2⟩ := okV_drop _ _ _ i 0 0 hv1 (Int.le_refl _) (Int.le_refl _)
    obtain ⟨c, t, he, hl⟩ := mid_ne L i j hij hj
    rw [he] at hv2 ⊢
    exact builder_is A B hA hB c t (by omega) a b hv2 ha hb ctx h0
  induction d with
  | zero =>
    intro i j out hij hj hf
    obtain ⟨R, r1, r2⟩ := hone i j hij (by omega)
    have c1 : ¬ (j : Int) < (L.length : Int) := by omega
    have c2 : (0 : Int) ≤ (i : Int) := by omega
    have c3 : (i : Int) ≤ (j : Int) := by omega
    have c4 : (j : Int) ≤ (L.length : Int) := by omega
    have c5 : out.length < 1954687338268 := by omega
    rw [List.drop_of_length_le (show L.length ≤ j by omega), gr, List.map_cons, List.map_nil]
    refine Ev.step (fun k => by rw [hunks_Build.l2, if_neg c1, if_pos c2, if_pos c3, if_pos c4]) (Ev.bind r1 (Ev.same (fun k => if_pos c5) ?_))
    refine Ev.step (f := fun _ => some (out ++ [hunkOf R], none)) (fun k => by rw [hunks_Build.l1, if_neg c1]; rfl) ?_
    rw [r2]
    exact Ev.pure _
  | succ d ih =>
    intro i j out hij hj hf
    have hjl : j < L.length := by omega
    have c1 : (j : Int) < (L.length : Int) := by omega
    have c0 : (0 : Int) ≤ (j : Int) := by omega
    have c2 : (0 : Int) ≤ (i : Int) := by omega
    have c3 : (i : Int) ≤ (j : Int) := by omega
    have c4 : (j : Int) ≤ (L.length : Int) := by omega
    have c5 : out.length < 1954687338268 := by omega
    have w1 : wrap64 ((j : Int) + 1) = ((j + 1 : Nat) : Int) := w_add j 1 (by omega)
    have w2 : wrap64 ((j : Int) - 1) = ((j - 1 : Nat) : Int) := by rw [w64' (by omega) (by omega)]; omega
    have c7 : (0 : Int) ≤ ((j - 1 : Nat) : Int) := by omega
    have c8 : ((j - 1 : Nat) : Int) < (L.length : Int) := by omega
    obtain ⟨x, hx⟩ : ∃ x, x = rd_T53 L (j : Int) := ⟨_, rfl⟩
    obtain ⟨y, hy⟩ : ∃ y, y = rd_T53 L ((j - 1 : Nat) : Int) := ⟨_, rfl⟩
    have hx1 := okV_at _ _ L j 0 0 hv (Int.le_refl _) (Int.le_refl _) hjl
    have hy1 := okV_at _ _ L (j - 1) 0 0 hv (Int.le_refl _) (Int.le_refl _) (by omega)
    have hml := mid_last L i j hij (by omega)
    have hms := mid_snoc L i j (by omega) hjl
    have hms2 := mid_snoc L j j (by omega) hjl
    have hdj := drop53 L j hjl
    have hd0 : (L.take j).drop j = [] := List.drop_of_length_le (by rw [List.length_take]; omega)
    rw [hd0, List.nil_append] at hms2
    obtain ⟨cc, tt, hne, _⟩ := mid_ne L i j hij (by omega)
    have hne2 : (L.take j).drop i ≠ [] := by rw [hne]; simp
    rw [← hx] at hx1 hms hms2 hdj
    rw [← hy] at hy1 hml
    rw [hdj, gr, hml]
    obtain ⟨g1, g2, g3⟩ := gap_at (A.length : Int) x.f0 y.f0 y.f1 ctx (by omega) (by omega) (by omega) h0
    by_cases hg : x.f0 - (y.f0 + y.f1) ≤ 2 * ctx
    · have h2 := ih i (j + 1) out (by omega) (by omega) (by omega)
      rw [hms, stOf_snoc _ _ hne2, lastE_app] at h2
      rw [if_pos hg]
      exact Ev.step (fun k => by rw [hunks_Build.l2, if_pos c1, if_pos c0, w2, if_pos c7, if_pos c8, ← hx, ← hy, g1, g3, if_pos hg, w1]) h2
    · obtain ⟨R, r1, r2⟩ := hone i j hij (by omega)
      have h2 := ih j (j + 1) (out ++ [hunkOf R]) (by omega) (by omega) (by simp; omega)
      have e1 : stOf ctx [x] = x.f0 - ctx := if_neg (by omega)
      have e2 : eOf ctx (A.length : Int) (y.f0 + y.f1) = y.f0 + y.f1 + ctx := if_pos (by omega)
      rw [hml, e2] at r2
      rw [hms2, e1] at h2
      rw [if_neg hg, List.map_cons, ← r2]
      rw [show ∀ z : List Hunk, out ++ hunkOf R :: z = (out ++ [hunkOf R]) ++ z from fun z => by simp]
      refine Ev.step (fun k => by rw [hunks_Build.l2, if_pos c1, if_pos c0, w2, if_pos c7, if_pos c8, ← hx, ← hy, g1, g3, if_neg hg, if_pos c2, if_pos c3, if_pos c4]) (Ev.bind r1 (Ev.same (fun k => if_pos c5) ?_))
      exact Ev.step (fun k => by rw [hunks_Build.l1, if_pos c1, w1]; rfl) h2
theorem stay_is (A B : List ByteArray) (hsA : ∀ s ∈ A, s.size ≤ 4000000000) (hsB : ∀ s ∈ B, s.size ≤ 4000000000) (L : List Chg) (ctx : Int) (res : List Hunk)
    (h2 : Ev (fun k => hunks_Build.l1 k L ctx [] 0 A B) (res, none)) (P : List S37) (hP : P.length ≤ 4000000000) (d : Nat) :
    ∀ (i : Nat) (a b : Int), i + d = P.length → inO (A.length : Int) (B.length : Int) (P.drop i) a b → 0 ≤ a → 0 ≤ b →
    ((∃ p ∈ P.drop i, ¬ whole (rdOf ByteArray.empty A p.f0) = whole (rdOf ByteArray.empty B p.f1)) ∧ ∃ e, Ev (fun k => hunks_Build.l0 k L A B ctx P (P.length : Int) (i : Int)) ([], some e)) ∨
      ((∀ p ∈ P.drop i, whole (rdOf ByteArray.empty A p.f0) = whole (rdOf ByteArray.empty B p.f1)) ∧ Ev (fun k => hunks_Build.l0 k L A B ctx P (P.length : Int) (i : Int)) (res, none)) := by
  induction d with
  | zero =>
    intro i a b h hin ha hb
    have c1 : ¬ (i : Int) < (P.length : Int) := by omega
    refine Or.inr ⟨fun p hp => ?_, Ev.step (fun k => by rw [hunks_Build.l0, if_neg c1]) h2⟩
    rw [List.drop_of_length_le (by omega)] at hp
    cases hp
  | succ d ih =>
    intro i a b h hin ha hb
    have hi : i < P.length := by omega
    obtain ⟨p, hp⟩ : ∃ p, p = rd_T37 P (i : Int) := ⟨_, rfl⟩
    have hdr : P.drop i = p :: P.drop (i + 1) := by rw [hp]; exact drop37 P i hi
    rw [hdr] at hin ⊢
    obtain ⟨q1, q2, q3, q4, q5⟩ := hin
    have c1 : (i : Int) < (P.length : Int) := by omega
    have c0 : (0 : Int) ≤ (i : Int) := by omega
    have w1 : wrap64 ((i : Int) + 1) = ((i + 1 : Nat) : Int) := w_add i 1 (by omega)
    have b1 : 0 ≤ p.f0 := by omega
    have b2 : 0 ≤ p.f1 := by omega
    have s1 := txt_size A hsA p.f0 b1 q3
    have s2 := txt_size B hsB p.f1 b2 q4
    by_cases hw : (whole (rdOf ByteArray.empty A p.f0) != whole (rdOf ByteArray.empty B p.f1)) = true
    · exact Or.inl ⟨⟨p, List.mem_cons_self, by simpa using hw⟩, 61, Ev.step (f := fun _ => some ([], some 61)) (fun k => by rw [hunks_Build.l0, if_pos c1, if_pos c0, if_pos c1, ← hp, if_pos b1, if_pos q3, whole_at _ s1, Option.bind_some, if_pos b2, if_pos q4, whole_at _ s2, Option.bind_some, if_pos hw]) (Ev.pure _)⟩
    · have hstep : ∀ v, Ev (fun k => hunks_Build.l0 k L A B ctx P (P.length : Int) ((i + 1 : Nat) : Int)) v → Ev (fun k => hunks_Build.l0 k L A B ctx P (P.length : Int) (i : Int)) v := fun v g2 =>
        Ev.step (fun k => by rw [hunks_Build.l0, if_pos c1, if_pos c0, if_pos c1, ← hp, if_pos b1, if_pos q3, whole_at _ s1, Option.bind_some, if_pos b2, if_pos q4, whole_at _ s2, Option.bind_some, if_neg hw, w1]) g2
      rcases ih (i + 1) _ _ (by omega) q5 (by omega) (by omega) with ⟨⟨r, r1, r2⟩, e, he⟩ | ⟨h3, h4⟩
      · exact Or.inl ⟨⟨r, List.mem_cons_of_mem _ r1, r2⟩, e, hstep _ he⟩
      · refine Or.inr ⟨fun r hr => ?_, hstep _ h4⟩
        rcases List.mem_cons.mp hr with rfl | hr
        · simpa using hw
        · exact h3 r hr
structure Bt (S : List Chg) (A B : List ByteArray) (L : List Chg) : Prop where
  va : validL A = true
  vb : validL B = true
  la : A.length ≤ 4194304
  lb : B.length ≤ 4194304
  norm : normS S (A.length : Int) (B.length : Int) = (L, none)
  whole : ∀ p ∈ pairsL (A.length : Int) L 0 0, whole (rdOf ByteArray.empty A p.f0) = whole (rdOf ByteArray.empty B p.f1)
theorem build_is (S : List Chg) (A B : List ByteArray) (ctx : Int) (hS : S.length ≤ 3000000000) (hlA : A.length ≤ 4000000000) (hlB : B.length ≤ 4000000000) (hsA : ∀ s ∈ A, s.size ≤ 4000000000) (hsB : ∀ s ∈ B, s.size ≤ 4000000000) :
    ((¬ ∃ L, Bt S A B L ∧ 0 ≤ ctx ∧ ctx ≤ 2147483647) ∧ ∃ e, Ev (fun k => hunks_Build.f k S A B ctx) ([], some e)) ∨
      (∃ L, Bt S A B L ∧ 0 ≤ ctx ∧ ctx ≤ 2147483647 ∧ Ev (fun k => hunks_Build.f k S A B ctx) ((grs ctx 0 (A.length : Int) L).map (hk A B), none)) := by
  by_cases hc : ctx < 0 ∨ ctx > 2147483647
  · refine Or.inl ⟨fun ⟨L, _, h1, h2⟩ => by omega, 1, ?_⟩
    have hj : Ev (fun k => hunks_Build.j0 k S A B ctx true) ([], some 1) := Ev.step (f := fun _ => some ([], some 1)) (fun k => by rw [hunks_Build.j0, if_pos rfl]) (Ev.pure _)
    refine Ev.same (fun k => ?_) hj
    unfold hunks_Build.f
    split
    · rfl
    · rw [decide_eq_true (by omega : ctx > 2147483647)]
  have e1 : ∀ k, hunks_Build.f k S A B ctx = hunks_Build.j0 k S A B ctx false := fun k => by
    unfold hunks_Build.f; rw [if_neg (by omega), decide_eq_false (by omega : ¬ ctx > 2147483647)]
  have hj0 : ∀ (x : List Hunk × Option Int), Ev (fun k => hunks_Build.j1 k S A B ctx (!(validL A && validL B))) x → Ev (fun k => hunks_Build.f k S A B ctx) x := by
    intro x h1
    refine Ev.same e1 (Ev.step (fun k => by rw [hunks_Build.j0, if_neg (by simp)]) (Ev.bind (p_valid A hlA hsA) ?_))
    cases hA : validL A with
    | true => rw [hA, Bool.true_and] at h1; exact Ev.same (fun k => if_pos rfl) (Ev.bind (p_valid B hlB hsB) h1)
    | false => rw [hA, Bool.false_and] at h1; exact Ev.same (fun k => if_neg (by simp)) h1
  cases hvv : (validL A && validL B) with
  | false =>
    rw [hvv] at hj0
    exact Or.inl ⟨fun ⟨L, hb, _⟩ => (by rw [hb.va, hb.vb] at hvv; cases hvv), 3, hj0 _ (Ev.step (f := fun _ => some ([], some 3)) (fun k => by rw [hunks_Build.j1, if_pos (by rfl)]) (Ev.pure _))⟩
  | true =>
    rw [hvv] at hj0
    rw [Bool.and_eq_true] at hvv
    have hn := norm_at S (by omega) (A.length : Int) (B.length : Int) (by omega) (by omega)
    obtain ⟨L, hLd⟩ : ∃ L, L = (normS S (A.length : Int) (B.length : Int)).1 := ⟨_, rfl⟩
    cases he : (normS S (A.length : Int) (B.length : Int)).2 with
    | some e =>
      exact Or.inl ⟨fun ⟨L, hb, _⟩ => (by rw [hb.norm] at he; cases he), e, hj0 _ (Ev.step (fun k => by rw [hunks_Build.j1, if_neg (by simp)]) (Ev.bind hn (Ev.same (fun k => by rw [he]; exact if_neg (by simp)) (Ev.pure _))))⟩
    | none =>
      have hpair : normS S (A.length : Int) (B.length : Int) = (L, none) := by rw [hLd, ← he]
      obtain ⟨h1, h2, h3, h4⟩ := normS_valid hpair
      have hL : L.length ≤ 4000000000 := by omega
      have hok := okV_of _ _ L 0 0 h3 (by omega) (by omega)
      have hpp := pairs_at L hL (A.length : Int) (B.length : Int) (by omega) (by omega) h1 h2 h3
      have hpl := pairsL_length (A.length : Int) (B.length : Int) L 0 0 h3 (by omega)
      have hio := inO_pairs (A.length : Int) (B.length : Int) L 0 0 h3 (by omega) (by omega)
      have hg : Ev (fun k => hunks_Build.l1 k L ctx [] 0 A B) ((grs ctx 0 (A.length : Int) L).map (hk A B), none) := by
        cases hLc : L with
        | nil => exact Ev.step (f := fun _ => some ([], none)) (fun k => by rw [hunks_Build.l1, if_neg (by simp)]) (Ev.pure _)
        | cons x t =>
          rw [hLc] at hL hok
          have g := groups_is A B (by omega) (by omega) (x :: t) hL hok ctx (by omega) t.length 0 1 [] (by omega) (by simp; omega) (by simp)
          have w : wrap64 ((0 : Int) + 1) = 1 := by rw [w64' (by omega) (by omega)]; rfl
          exact Ev.step (fun k => by rw [hunks_Build.l1, if_pos (by simp), w]; rfl) g
      have hj1 : ∀ x, Ev (fun k => hunks_Build.l0 k L A B ctx (pairsL (A.length : Int) L 0 0) ((pairsL (A.length : Int) L 0 0).length : Int) ((0 : Nat) : Int)) x → Ev (fun k => hunks_Build.f k S A B ctx) x := fun x k2 => hj0 x (by
        rw [hpair] at hn
        exact Ev.step (fun k => by rw [hunks_Build.j1, if_neg (by simp)]) (Ev.bind hn (Ev.same (fun k => if_pos rfl) (Ev.bind hpp (Ev.same (fun k => if_pos rfl) k2)))))
      rcases stay_is A B hsA hsB L ctx _ hg (pairsL (A.length : Int) L 0 0) (by omega) (pairsL (A.length : Int) L 0 0).length 0 0 0 (by omega) (by rw [List.drop_zero]; exact hio) (Int.le_refl _) (Int.le_refl _) with ⟨⟨r, r1, r2⟩, e, he⟩ | ⟨k1, k2⟩
      · refine Or.inl ⟨fun ⟨L', hb, _⟩ => ?_, e, hj1 _ he⟩
        obtain rfl : L = L' := congrArg Prod.fst (hpair.symm.trans hb.norm)
        rw [List.drop_zero] at r1
        exact r2 (hb.whole r r1)
      · exact Or.inr ⟨L, ⟨hvv.1, hvv.2, by omega, by omega, hpair, by rw [List.drop_zero] at k1; exact k1⟩, by omega, by omega, hj1 _ k2⟩
end Go.Proofs.YtecjoofjiockkaaDoor.Pure
namespace Go.Proofs.YtecjoofjiockkaaDoor.Pure
open Go.RowKit Go.Proofs.YtecjoofjiockkaaDoor.Pp Go.Proofs.YtecjoofjiockkaaDoor.Ext Go.Proofs.YtecjoofjiockkaaDoorW.PrintWords Go.Proofs.YtecjoofjiockkaaDoorW.PrintLast Go.Proofs.YtecjoofjiockkaaDoorW.PrintMore
set_option linter.unusedVariables false
set_option linter.unusedSimpArgs false
def endOld (l : List Row) : Bool := l.any fun r => isOld r && !whole r.f1
def endNew (l : List Row) : Bool := l.any fun r => isNew r && !whole r.f1
theorem sides_end : ∀ (l : List Row) (c d : Int) (e f ch : Bool) (x : (Int × Bool) × (Int × Bool) × Bool), (∀ r ∈ l, r.f1.size ≤ 4000000000) → sidesF l c e d f ch = some x → rowsOk l e f ch = true →
    x.1.2 = (e || endOld l) ∧ x.2.1.2 = (f || endNew l)
  | [], c, d, e, f, ch, x, _, h, _ => by
    obtain rfl := Option.some.inj h
    simp [endOld, endNew]
  | r :: t, c, d, e, f, ch, x, hs, h, ok => by
    have hr := hs r (List.mem_cons_self)
    have ht : ∀ r ∈ t, r.f1.size ≤ 4000000000 := fun x hx => hs x (List.mem_cons_of_mem _ hx)
    unfold rowsOk at ok
    split at ok
    case isFalse => cases ok
    rename_i hg
    unfold good at hg
    simp only [Bool.and_eq_true, Bool.or_eq_true, Bool.not_eq_true'] at hg
    unfold sidesF at h
    rw [line_at _ hr] at h
    simp only [addIf, add_at _ _ _ hr, Option.bind_some] at h
    have eo : endOld (r :: t) = ((isOld r && !whole r.f1) || endOld t) := by simp [endOld]
    have en : endNew (r :: t) = ((isNew r && !whole r.f1) || endNew t) := by simp [endNew]
    rw [eo, en]
    rcases kinds r with ⟨hk, h1, h2⟩ | ⟨hk, h1, h2⟩ | ⟨hk, h1, h2⟩ | ⟨hk, h1, h2⟩
    · rw [h1, h2] at hg ok
      obtain ⟨⟨⟨_, hl⟩, he⟩, hf⟩ := hg
      obtain rfl : e = false := by simpa using he
      obtain rfl : f = false := by simpa using hf
      rw [hk, hl, if_neg (by omega), if_neg (by omega)] at h
      simp [hk] at h
      have := sides_end t _ _ _ _ _ x ht h (by simpa [hk] using ok)
      rw [h1, h2]
      simpa using this
    · rw [h1, h2] at hg ok
      obtain ⟨⟨⟨_, hl⟩, he⟩, hf⟩ := hg
      obtain rfl : e = false := by simpa using he
      rw [hk, hl, if_neg (by omega), if_neg (by omega)] at h
      simp [hk] at h
      have := sides_end t _ _ _ _ _ x ht h (by simpa [hk] using ok)
      rw [h1, h2]
      simpa using this
    · rw [h1, h2] at hg ok
      obtain ⟨⟨⟨_, hl⟩, he⟩, hf⟩ := hg
      obtain rfl : f = false := by simpa using hf
      rw [hk, hl, if_neg (by omega), if_neg (by omega)] at h
      simp [hk] at h
      have := sides_end t _ _ _ _ _ x ht h (by simpa [hk] using ok)
      rw [h1, h2]
      simpa using this
    · rw [h1, h2] at hg; simp at hg
def aheadI (a n : Int) : Int := if n > 0 then a - 1 else a
theorem ahead_at (a n : Int) (ha : -1000000000000 ≤ a ∧ a ≤ 1000000000000) : hunks_ahead.f a n = some (aheadI a n) := by
  unfold hunks_ahead.f aheadI
  split
  · rw [w64' (i := a - 1) (by omega) (by omega)]
  · rfl
theorem hunk_rows {h : Hunk} (hk : hunkOk h = true) : rowsOk h.f5 false false false = true := by
  unfold hunkOk at hk
  simp only [Bool.and_eq_true] at hk
  exact hk.1.1.1.1.1
theorem hunk_places {h : Hunk} (hk : hunkOk h = true) : (0 ≤ h.f1 ∧ 0 ≤ h.f0 ∧ (0 < h.f0 ∨ h.f1 = 0) ∧ h.f0 ≤ 2147483647 ∧ h.f1 ≤ 2147483647 - h.f0) ∧ (0 ≤ h.f3 ∧ 0 ≤ h.f2 ∧ (0 < h.f2 ∨ h.f3 = 0) ∧ h.f2 ≤ 2147483647 ∧ h.f3 ≤ 2147483647 - h.f2) := by
  unfold hunkOk at hk
  simp only [Bool.and_eq_true] at hk
  exact ⟨of_decide_eq_true (show placeOk h.f0 h.f1 = true from hk.1.1.2), of_decide_eq_true (show placeOk h.f2 h.f3 = true from hk.1.2)⟩
theorem aheadI_in {a n : Int} (h : 0 ≤ n ∧ 0 ≤ a ∧ (0 < a ∨ n = 0) ∧ a ≤ 2147483647 ∧ n ≤ 2147483647 - a) : 0 ≤ aheadI a n ∧ aheadI a n ≤ 2147483647 ∧ aheadI a n + n ≤ 2147483647 := by
  unfold aheadI; split <;> omega
theorem order_nums {h0 h1 h2 h3 a b : Int} (p : 0 ≤ h1 ∧ 0 ≤ h0 ∧ (0 < h0 ∨ h1 = 0) ∧ h0 ≤ 2147483647 ∧ h1 ≤ 2147483647 - h0) (q : 0 ≤ h3 ∧ 0 ≤ h2 ∧ (0 < h2 ∨ h3 = 0) ∧ h2 ≤ 2147483647 ∧ h3 ≤ 2147483647 - h2) (ha : 0 ≤ a ∧ a ≤ 4294967296) (hb : 0 ≤ b ∧ b ≤ 4294967296) :
    wrap64 (aheadI h0 h1 - aheadI h2 h3) = aheadI h0 h1 - aheadI h2 h3 ∧ wrap64 (a - b) = a - b ∧ wrap64 (aheadI h0 h1 + h1) = aheadI h0 h1 + h1 ∧ wrap64 (aheadI h2 h3 + h3) = aheadI h2 h3 + h3 ∧ (-1000000000000 ≤ h0 ∧ h0 ≤ 1000000000000) ∧ (-1000000000000 ≤ h2 ∧ h2 ≤ 1000000000000) := by
  have h1 := aheadI_in p
  have h2 := aheadI_in q
  exact ⟨w64' (by omega) (by omega), w64' (by omega) (by omega), w64' (by omega) (by omega), w64' (by omega) (by omega), by omega, by omega⟩
attribute [local irreducible] aheadI
theorem sides_ok (h : Hunk) (hs : Small h) (hk : hunkOk h = true) : ∃ c d : Int, hunks_sides.f h.f0 h.f1 h.f2 h.f3 h.f4 h.f5 = some (c, endOld h.f5, d, endNew h.f5, true) := by
  have hz : ∀ r ∈ h.f5, r.f1.size ≤ 4000000000 := fun r hr => by have := hs.texts r hr; omega
  have hl := hs.rows
  obtain ⟨x, e1, e2, e3⟩ := p_sides h.f5 0 0 false false false (by omega) (by omega) hz
  obtain ⟨e4, e5⟩ := sides_end h.f5 _ _ _ _ _ x hz e1 (hunk_rows hk)
  unfold hunks_sides.f
  rw [if_pos (by omega), show (0 : Int) = ((0 : Nat) : Int) from rfl, e1]
  refine ⟨x.1.1, x.2.1.1, ?_⟩
  rw [Option.map_some, e4, e5, e2, hunk_rows hk, Bool.false_or, Bool.false_or]
def ordL : List Hunk → Int → Int → Bool → Bool → Bool
  | [], _, _, _, _ => true
  | h :: t, a, b, e, o =>
    if aheadI h.f0 h.f1 < a then false else if aheadI h.f2 h.f3 < b then false
    else if aheadI h.f0 h.f1 - aheadI h.f2 h.f3 = a - b then
      (if e = true ∧ h.f1 > 0 then false else if o = true ∧ h.f3 > 0 then false
       else ordL t (aheadI h.f0 h.f1 + h.f1) (aheadI h.f2 h.f3 + h.f3) (e || endOld h.f5) (o || endNew h.f5))
    else false
def orderS (l : List Hunk) : Option Int := if l.all hunkOk = true then (if ordL l 0 0 false false = true then none else some 112) else some 100
theorem p_order_step (k : Nat) (l : List Hunk) (i : Nat) (hi : i < l.length) (hl : l.length ≤ 1000000000) (h : Hunk) (hh : h = l.getD i z41) (hs : Small h) (hk : hunkOk h = true) (a b : Int) (ha : 0 ≤ a ∧ a ≤ 4294967296) (hb : 0 ≤ b ∧ b ≤ 4294967296) (e o : Bool) :
    hunks_Order.l1 (k + 1) a b e o l (l.length : Int) (i : Int) = (if aheadI h.f0 h.f1 < a then some (some 112) else if aheadI h.f2 h.f3 < b then some (some 112)
      else if aheadI h.f0 h.f1 - aheadI h.f2 h.f3 = a - b then (if e = true ∧ h.f1 > 0 then some (some 112) else if o = true ∧ h.f3 > 0 then some (some 112)
        else hunks_Order.l1 k (aheadI h.f0 h.f1 + h.f1) (aheadI h.f2 h.f3 + h.f3) (e || endOld h.f5) (o || endNew h.f5) l (l.length : Int) ((i + 1 : Nat) : Int)) else some (some 112)) := by
  have c0 : (0 : Int) ≤ (i : Int) := by omega
  have c1 : (i : Int) < (l.length : Int) := by omega
  have w1 : wrap64 ((i : Int) + 1) = ((i + 1 : Nat) : Int) := w_add i 1 (by omega)
  obtain ⟨w2, w3, w4, w5, b1, b2⟩ := order_nums (hunk_places hk).1 (hunk_places hk).2 ha hb
  obtain ⟨c, d, hsd⟩ := sides_ok h hs hk
  rw [hunks_Order.l1, if_pos c1, if_pos c0, if_pos c1, rd_hunk, ← hh, ahead_at _ _ b1, Option.bind_some, ahead_at _ _ b2, Option.bind_some, w1, w2, w3, w4, w5, hsd]
  simp only [Option.bind_some]
  cases e <;> cases o <;> simp
theorem p_order (l : List Hunk) (hl : l.length ≤ 1000000000) (ok : ∀ h ∈ l, Small h ∧ hunkOk h = true) (d : Nat) : ∀ (i : Nat) (a b : Int) (e o : Bool), i + d = l.length → (0 ≤ a ∧ a ≤ 4294967296) → (0 ≤ b ∧ b ≤ 4294967296) →
    Ev (fun k => hunks_Order.l1 k a b e o l (l.length : Int) (i : Int)) (if ordL (l.drop i) a b e o = true then none else some 112) := by
  induction d with
  | zero =>
    intro i a b e o h _ _
    rw [List.drop_of_length_le (by omega)]
    exact Ev.step (f := fun _ => some none) (fun k => by rw [hunks_Order.l1, if_neg (by omega)]) (Ev.pure _)
  | succ d ih =>
    intro i a b e o h ha hb
    have hi : i < l.length := by omega
    obtain ⟨x, hx⟩ : ∃ x, x = l.getD i z41 := ⟨_, rfl⟩
    obtain ⟨hs, hk⟩ := ok x (by rw [hx]; exact rd_mem l i hi)
    have hp := hunk_places hk
    have h1 := aheadI_in hp.1
    have h2 := aheadI_in hp.2
    rw [drop_by l z41 i hi, ← hx]
    refine Ev.step (fun k => p_order_step k l i hi hl x hx hs hk a b ha hb e o) ?_
    unfold ordL
    by_cases c1 : aheadI x.f0 x.f1 < a
    · simp only [if_pos c1]; exact Ev.pure _
    by_cases c2 : aheadI x.f2 x.f3 < b
    · simp only [if_neg c1, if_pos c2]; exact Ev.pure _
    by_cases c3 : aheadI x.f0 x.f1 - aheadI x.f2 x.f3 = a - b
    · by_cases c4 : e = true ∧ x.f1 > 0
      · simp only [if_neg c1, if_neg c2, if_pos c3, if_pos c4]; exact Ev.pure _
      by_cases c5 : o = true ∧ x.f3 > 0
      · simp only [if_neg c1, if_neg c2, if_pos c3, if_neg c4, if_pos c5]; exact Ev.pure _
      simp only [if_neg c1, if_neg c2, if_pos c3, if_neg c4, if_neg c5]
      exact ih (i + 1) _ _ _ _ (by omega) (by omega) (by omega)
    · simp only [if_neg c1, if_neg c2, if_neg c3]; exact Ev.pure _
theorem all_drop (l : List Hunk) (i : Nat) (hi : i < l.length) : (l.drop i).all hunkOk = (hunkOk (l.getD i z41) && (l.drop (i + 1)).all hunkOk) := by
  rw [drop_by l z41 i hi, List.all_cons]
theorem p_valids (l : List Hunk) (hl : l.length ≤ 1000000000) (hs : ∀ h ∈ l, Small h) (v : Option Int) (hv : l.all hunkOk = true → Ev (fun k => hunks_Order.l1 k 0 0 false false l (l.length : Int) 0) v) (d : Nat) : ∀ i : Nat, i + d = l.length → (∀ j, j < i → hunkOk (l.getD j z41) = true) →
    Ev (fun k => hunks_Order.l0 k l l (l.length : Int) (i : Int)) (if (l.drop i).all hunkOk = true then v else some 100) := by
  induction d with
  | zero =>
    intro i h hj
    rw [List.drop_of_length_le (by omega), if_pos (by rfl)]
    refine Ev.step (fun k => by rw [hunks_Order.l0, if_neg (by omega)]) (hv (List.all_eq_true.mpr fun x hx => ?_))
    obtain ⟨j, hj1, rfl⟩ := List.mem_iff_getElem.mp hx
    have := hj j (by omega)
    rwa [List.getD_eq_getElem?_getD, List.getElem?_eq_getElem hj1] at this
  | succ d ih =>
    intro i h hj
    have hi : i < l.length := by omega
    have w1 : wrap64 ((i : Int) + 1) = ((i + 1 : Nat) : Int) := w_add i 1 (by omega)
    have hp := p_hunk _ (hs _ (rd_mem l i hi))
    unfold validF at hp
    rw [all_drop l i hi]
    cases hk : hunkOk (l.getD i z41) with
    | true =>
      rw [hk] at hp
      rw [Bool.true_and]
      refine Ev.step (fun k => by rw [hunks_Order.l0, if_pos (by omega), if_pos (by omega), if_pos (by omega), rd_hunk, hp]; simp [w1]) (ih (i + 1) (by omega) (fun j hj' => ?_))
      rcases Nat.lt_or_ge j i with c | c
      · exact hj j c
      · rw [show j = i by omega]; exact hk
    | false =>
      rw [hk, if_neg (by simp)] at hp
      rw [Bool.false_and, if_neg (by simp)]
      exact Ev.step (f := fun _ => some (some 100)) (fun k => by rw [hunks_Order.l0, if_pos (by omega), if_pos (by omega), if_pos (by omega), rd_hunk, hp, Option.bind_some, if_neg (by simp)]; rfl) (Ev.pure _)
theorem order_at (l : List Hunk) (hl : Hs l) : Ev (fun k => hunks_Order.f k l) (orderS l) := by
  have h1 := hl.count
  refine p_valids l (by omega) hl.all _ (fun ha => ?_) l.length 0 (by omega) (fun j hj => by omega)
  have := p_order l (by omega) (fun h hm => ⟨hl.all h hm, List.all_eq_true.mp ha h hm⟩) l.length 0 0 0 false false (by omega) (by omega) (by omega)
  rw [List.drop_zero] at this
  exact this
end Go.Proofs.YtecjoofjiockkaaDoor.Pure
namespace Go.Proofs.YtecjoofjiockkaaDoor.Pure
open Go.RowKit Go.Proofs.YtecjoofjiockkaaDoor.Pp Go.Proofs.YtecjoofjiockkaaDoor.Ext Go.Proofs.YtecjoofjiockkaaDoorW.PrintWords Go.Proofs.YtecjoofjiockkaaDoorW.PrintLast Go.Proofs.YtecjoofjiockkaaDoorW.PrintMore
set_option linter.unusedVariables false
set_option linter.unusedSimpArgs false
def lw (s : ByteArray) : Bool × Bool := (line s, whole s)
def alike {β : Type} (f : ByteArray → β) (A B : List ByteArray) (a b d : Int) : Prop := ∀ i : Int, 0 ≤ i → i < d → f (A.getD (a + i).toNat ByteArray.empty) = f (B.getD (b + i).toNat ByteArray.empty)
theorem alike_sub {β : Type} {f : ByteArray → β} {A B : List ByteArray} {a b d : Int} (h : alike f A B a b d) (s d' : Int) (hs : 0 ≤ s) (hd : s + d' ≤ d) : alike f A B (a + s) (b + s) d' := fun i h0 h1 => by
  have := h (s + i) (by omega) (by omega)
  rw [show a + s + i = a + (s + i) by omega, show b + s + i = b + (s + i) by omega]
  exact this
theorem alike_nil {β : Type} (f : ByteArray → β) (A B : List ByteArray) (a b d : Int) (h : d ≤ 0) : alike f A B a b d := fun i h0 h1 => by omega
theorem alike_cut {β : Type} {f : ByteArray → β} {A B : List ByteArray} {a b d : Int} (h : alike f A B a b d) (ha : 0 ≤ a) (hb : 0 ≤ b) (hd : 0 ≤ d) (h1 : a + d ≤ (A.length : Int)) (h2 : b + d ≤ (B.length : Int)) : (cut A a (a + d)).map f = (cut B b (b + d)).map f := by
  apply List.ext_getElem?
  intro i
  rw [List.getElem?_map, List.getElem?_map, cut_get?, cut_get?]
  by_cases hi : (i : Int) < d
  · rw [if_pos (by omega), if_pos (by omega)]
    have := h i (by omega) hi
    rw [show (a + (i : Int)).toNat = a.toNat + i by omega, show (b + (i : Int)).toNat = b.toNat + i by omega, List.getD_eq_getElem?_getD, List.getD_eq_getElem?_getD, List.getElem?_eq_getElem (by omega), List.getElem?_eq_getElem (by omega)] at this
    rw [List.getElem?_eq_getElem (by omega), List.getElem?_eq_getElem (by omega)]
    exact congrArg some this
  · rw [if_neg (by omega), if_neg (by omega)]
theorem valid_lw : ∀ (x y : List ByteArray), x.map lw = y.map lw → validL x = validL y
  | [], [], h => rfl
  | [], _ :: _, h => by simp at h
  | _ :: _, [], h => by simp at h
  | s :: x, r :: y, h => by
    rw [List.map_cons, List.map_cons] at h
    obtain ⟨h1, h2⟩ := List.cons.inj h
    have e1 : line s = line r := congrArg Prod.fst h1
    have e2 : whole s = whole r := congrArg Prod.snd h1
    have e3 : x.isEmpty = y.isEmpty := by
      cases x <;> cases y <;> simp at h2 ⊢
    rw [validL, validL, valid_lw x y h2, e1, e2, e3]
theorem valid_at' : ∀ (l : List ByteArray) (i : Nat), validL l = true → i < l.length → line (l.getD i ByteArray.empty) = true ∧ (whole (l.getD i ByteArray.empty) = false → i + 1 = l.length)
  | [], i, h, hi => absurd hi (by simp)
  | s :: t, 0, h, hi => by
    rw [validL, Bool.and_eq_true, Bool.and_eq_true, Bool.or_eq_true] at h
    refine ⟨h.1.1, fun hw => ?_⟩
    have hw' : whole s = false := hw
    rcases h.1.2 with h2 | h2
    · rw [List.isEmpty_iff] at h2; subst h2; rfl
    · rw [hw'] at h2; cases h2
  | s :: t, i + 1, h, hi => by
    rw [validL, Bool.and_eq_true, Bool.and_eq_true] at h
    obtain ⟨h1, h2⟩ := valid_at' t i h.2 (by simpa using hi)
    exact ⟨h1, fun hw => by rw [List.length_cons, h2 hw]⟩
theorem valid_drop : ∀ (l : List ByteArray) (n : Nat), validL l = true → validL (l.drop n) = true
  | l, 0, h => h
  | [], n + 1, h => h
  | s :: t, n + 1, h => by
    rw [validL, Bool.and_eq_true] at h
    exact valid_drop t n h.2
theorem valid_take : ∀ (l : List ByteArray) (n : Nat), validL l = true → validL (l.take n) = true
  | l, 0, h => rfl
  | [], n + 1, h => h
  | s :: t, n + 1, h => by
    rw [validL, Bool.and_eq_true, Bool.and_eq_true, Bool.or_eq_true] at h
    obtain ⟨⟨h1, h2⟩, h3⟩ := h
    rw [List.take_succ_cons, validL, h1, valid_take t n h3, Bool.true_and, Bool.and_true, Bool.or_eq_true]
    rcases h2 with h2 | h2
    · left
      cases t with
      | nil => rw [List.take_nil]; rfl
      | cons => cases h2
    · exact Or.inr h2
theorem valid_cut {l : List ByteArray} (h : validL l = true) (a b : Int) : validL (cut l a b) = true := valid_drop _ _ (valid_take _ _ h)
theorem cut_mem {l : List ByteArray} {a b : Int} {s : ByteArray} (h : s ∈ cut l a b) : ∃ i, i < l.length ∧ i < b.toNat ∧ l.getD i ByteArray.empty = s := by
  obtain ⟨i, hi⟩ := List.mem_iff_getElem?.mp h
  rw [cut_get?] at hi
  split at hi
  · obtain ⟨h1, h2⟩ := List.getElem?_eq_some_iff.mp hi
    exact ⟨a.toNat + i, h1, by omega, by rw [List.getD_eq_getElem?_getD, hi]; rfl⟩
  · cases hi
theorem cut_open {l : List ByteArray} (hv : validL l = true) {a b : Int} (hb : b ≤ (l.length : Int)) (h : (cut l a b).any (fun s => !whole s) = true) : b = (l.length : Int) := by
  obtain ⟨s, hs, hw⟩ := List.any_eq_true.mp h
  obtain ⟨i, h1, h2, h3⟩ := cut_mem hs
  have := (valid_at' l i hv h1).2 (by rw [h3]; simpa using hw)
  omega
theorem oldT_app (x y : List Row) : oldT (x ++ y) = oldT x ++ oldT y := by unfold oldT; rw [List.filter_append, List.map_append]
theorem newT_app (x y : List Row) : newT (x ++ y) = newT x ++ newT y := by unfold newT; rw [List.filter_append, List.map_append]
theorem side_put (o : Int) (T : List ByteArray) : oldT (putL o T) = (if o = 1 ∨ o = 2 then T else []) ∧ newT (putL o T) = (if o = 1 ∨ o = 3 then T else []) := by
  induction T with
  | nil => constructor <;> split <;> rfl
  | cons s t ih =>
    have e1 : isOld (⟨o, s⟩ : Row) = decide (o = 1 ∨ o = 2) := by unfold isOld; by_cases a : o = 1 <;> by_cases b : o = 2 <;> simp [a, b]
    have e2 : isNew (⟨o, s⟩ : Row) = decide (o = 1 ∨ o = 3) := by unfold isNew; by_cases a : o = 1 <;> by_cases b : o = 3 <;> simp [a, b]
    show oldT ((⟨o, s⟩ : Row) :: putL o t) = _ ∧ newT ((⟨o, s⟩ : Row) :: putL o t) = _
    rw [oldT_cons, newT_cons, ih.1, ih.2, e1, e2]
    constructor
    · by_cases h : o = 1 ∨ o = 2 <;> simp [h]
    · by_cases h : o = 1 ∨ o = 3 <;> simp [h]
theorem chg_sides (A B : List ByteArray) (x : Chg) : oldT (chgR A B x) = cut A x.f0 (x.f0 + x.f1) ∧ newT (chgR A B x) = cut B x.f2 (x.f2 + x.f3) := by
  unfold chgR
  rw [oldT_app, newT_app, (side_put 2 _).1, (side_put 2 _).2, (side_put 3 _).1, (side_put 3 _).2]
  simp
def comW {β : Type} (f : ByteArray → β) (A B : List ByteArray) (e : Int) : List Chg → Int → Int → Prop
  | [], a, b => alike f A B a b (e - a)
  | c :: t, a, b => alike f A B a b (c.f0 - a) ∧ comW f A B e t (c.f0 + c.f1) (c.f2 + c.f3)
theorem rows_old (A B : List ByteArray) (e : Int) (he : e ≤ (A.length : Int)) : ∀ (G : List Chg) (a b : Int), okV (A.length : Int) (B.length : Int) G a b → 0 ≤ a → 0 ≤ b → lastE G a ≤ e → oldT (rowsG A B a G e) = cut A a e
  | [], a, b, h, ha, hb, hl => by rw [rowsG, (side_put 1 _).1, if_pos (Or.inl rfl)]
  | c :: t, a, b, h, ha, hb, hl => by
    obtain ⟨⟨q1, q2, q3, q4, q5, q6, q7, q8, q9, q10⟩, ht⟩ := h
    have hg := lastE_ge _ _ t _ _ (c.f0 + c.f1) ht (Int.le_refl _)
    have hl' : lastE t (c.f0 + c.f1) ≤ e := hl
    rw [rowsG_cons, oldT_app, oldT_app, (side_put 1 _).1, if_pos (Or.inl rfl), (chg_sides A B c).1, rows_old A B e he t _ _ ht (by omega) (by omega) hl,
      cut_app A c.f0 (c.f0 + c.f1) e (by omega) (by omega) (by omega) he, cut_app A a c.f0 e ha q4 (by omega) he]
theorem rows_new {β : Type} (f : ByteArray → β) (A B : List ByteArray) (e : Int) (he : e ≤ (A.length : Int)) : ∀ (G : List Chg) (a b : Int), okV (A.length : Int) (B.length : Int) G a b → 0 ≤ a → 0 ≤ b → lastE G a ≤ e → comW f A B e G a b → lastB G b + (e - lastE G a) ≤ (B.length : Int) →
    (newT (rowsG A B a G e)).map f = (cut B b (lastB G b + (e - lastE G a))).map f
  | [], a, b, h, ha, hb, hl, hc, hm => by
    have hl' : a ≤ e := hl
    have hm' : b + (e - a) ≤ (B.length : Int) := hm
    have := alike_cut hc ha hb (by omega) (by omega) hm'
    rw [rowsG, (side_put 1 _).2, if_pos (Or.inl rfl)]
    rw [show a + (e - a) = e by omega] at this
    exact this
  | c :: t, a, b, h, ha, hb, hl, hc, hm => by
    obtain ⟨⟨q1, q2, q3, q4, q5, q6, q7, q8, q9, q10⟩, ht⟩ := h
    obtain ⟨hc1, hc2⟩ := hc
    have hg := lastB_le _ _ t _ _ ht
    have hl' : lastE t (c.f0 + c.f1) ≤ e := hl
    have hm' : lastB t (c.f2 + c.f3) + (e - lastE t (c.f0 + c.f1)) ≤ (B.length : Int) := hm
    have h1 := alike_cut hc1 ha hb (by omega) (by omega) (by omega)
    rw [show a + (c.f0 - a) = c.f0 by omega, show b + (c.f0 - a) = c.f2 by omega] at h1
    rw [rowsG_cons, newT_app, newT_app, (side_put 1 _).2, if_pos (Or.inl rfl), (chg_sides A B c).2, List.map_append, List.map_append, rows_new f A B e he t _ _ ht (by omega) (by omega) hl hc2 hm', h1, ← List.map_append, ← List.map_append]
    show (cut B b c.f2 ++ (cut B c.f2 (c.f2 + c.f3) ++ cut B (c.f2 + c.f3) (lastB t (c.f2 + c.f3) + (e - lastE t (c.f0 + c.f1))))).map f = _
    rw [cut_app B c.f2 (c.f2 + c.f3) _ (by omega) (by omega) (by omega) hm', cut_app B b c.f2 _ hb q6 (by omega) hm']
    rfl
theorem put_kind (o : Int) (T : List ByteArray) : ∀ r ∈ putL o T, r.f0 = o := fun r hr => by
  obtain ⟨t, _, rfl⟩ := List.mem_map.mp hr
  rfl
theorem rows_kinds (A B : List ByteArray) (e : Int) : ∀ (G : List Chg) (a : Int), ∀ r ∈ rowsG A B a G e, r.f0 = 1 ∨ r.f0 = 2 ∨ r.f0 = 3
  | [], a, r, hr => Or.inl (put_kind 1 _ r hr)
  | c :: t, a, r, hr => by
    rw [rowsG] at hr
    rcases List.mem_append.mp hr with h | h
    · exact Or.inl (put_kind 1 _ r h)
    rcases List.mem_append.mp h with h | h
    · exact Or.inr (Or.inl (put_kind 2 _ r h))
    rcases List.mem_append.mp h with h | h
    · exact Or.inr (Or.inr (put_kind 3 _ r h))
    exact rows_kinds A B e t _ r h
theorem rows_change (A B : List ByteArray) (e a b : Int) (c : Chg) (t : List Chg) (h : okC (A.length : Int) (B.length : Int) a b c) (ha : 0 ≤ a) (hb : 0 ≤ b) : ∃ r ∈ rowsG A B a (c :: t) e, r.f0 ≠ 1 := by
  have hne := chg_len A B _ _ a b rfl rfl ha hb c h
  rw [rowsG_cons]
  cases hc : chgR A B c with
  | nil => exact absurd hc hne
  | cons r l =>
    have hr := chg_nb A B c r (by rw [hc]; exact List.mem_cons_self)
    refine ⟨r, List.mem_append_right _ List.mem_cons_self, ?_⟩
    unfold nb at hr
    simpa using hr
theorem rowsOk_of : ∀ (R : List Row) (e o ch : Bool), (∀ r ∈ R, r.f0 = 1 ∨ r.f0 = 2 ∨ r.f0 = 3) → (e = true → oldT R = []) → (o = true → newT R = []) → validL (oldT R) = true → validL (newT R) = true → (ch = true ∨ ∃ r ∈ R, r.f0 ≠ 1) → rowsOk R e o ch = true
  | [], e, o, ch, hk, he, ho, hv, hw, hc => by
    rcases hc with hc | ⟨r, hr, _⟩
    · rw [rowsOk]; exact hc
    · cases hr
  | r :: t, e, o, ch, hk, he, ho, hv, hw, hc => by
    have hkt : ∀ x ∈ t, x.f0 = 1 ∨ x.f0 = 2 ∨ x.f0 = 3 := fun x hx => hk x (List.mem_cons_of_mem _ hx)
    have hch : (ch || (r.f0 != 1)) = true ∨ ∃ x ∈ t, x.f0 ≠ 1 := by
      rcases hc with hc | ⟨x, hx, hx1⟩
      · left; rw [hc]; rfl
      · rcases List.mem_cons.mp hx with rfl | hx
        · left; rw [bne_iff_ne.mpr hx1, Bool.or_true]
        · exact Or.inr ⟨x, hx, hx1⟩
    rw [oldT_cons] at he hv
    rw [newT_cons] at ho hw
    have hv2 : ∀ (b : Bool) (s : ByteArray) (q : List ByteArray), b = true → validL ((if b = true then [s] else []) ++ q) = true → line s = true ∧ validL q = true ∧ (whole s = false → q = []) := by
      intro b s q hb h
      rw [if_pos hb, List.singleton_append, validL, Bool.and_eq_true, Bool.and_eq_true, Bool.or_eq_true] at h
      obtain ⟨⟨h1, h2⟩, h3⟩ := h
      refine ⟨h1, h3, fun hf => ?_⟩
      rw [hf] at h2
      cases q with
      | nil => rfl
      | cons => rcases h2 with h2 | h2 <;> cases h2
    have hno : ∀ (b x : Bool) (s : ByteArray) (q : List ByteArray), b = true → (x = true → (if b = true then [s] else []) ++ q = []) → x = false := by
      intro b x s q hb h
      cases x with
      | false => rfl
      | true => have := h rfl; rw [if_pos hb] at this; cases this
    rw [rowsOk]
    rcases kinds r with ⟨k, i1, i2⟩ | ⟨k, i1, i2⟩ | ⟨k, i1, i2⟩ | ⟨⟨k1, k2, k3⟩, _, _⟩
    · obtain ⟨l1, v1, w1⟩ := hv2 _ _ _ i1 hv
      obtain ⟨l2, v2, w2⟩ := hv2 _ _ _ i2 hw
      obtain rfl := hno _ e _ _ i1 he
      obtain rfl := hno _ o _ _ i2 ho
      have hg : good r false false = true := by unfold good; rw [i1, i2, l1]; rfl
      rw [if_pos hg]
      refine rowsOk_of t _ _ _ hkt (fun h => ?_) (fun h => ?_) v1 v2 hch
      · rw [i1] at h; exact w1 (by simpa using h)
      · rw [i2] at h; exact w2 (by simpa using h)
    · obtain ⟨l1, v1, w1⟩ := hv2 _ _ _ i1 hv
      rw [if_neg (by rw [i2]; simp), List.nil_append] at hw ho
      obtain rfl := hno _ e _ _ i1 he
      have hg : good r false o = true := by unfold good; rw [i1, i2, l1]; rfl
      rw [if_pos hg]
      refine rowsOk_of t _ _ _ hkt (fun h => ?_) (fun h => ?_) v1 hw hch
      · rw [i1] at h; exact w1 (by simpa using h)
      · rw [i2] at h; exact ho (by simpa using h)
    · obtain ⟨l2, v2, w2⟩ := hv2 _ _ _ i2 hw
      rw [if_neg (by rw [i1]; simp), List.nil_append] at hv he
      obtain rfl := hno _ o _ _ i2 ho
      have hg : good r e false = true := by unfold good; rw [i1, i2, l2]; rfl
      rw [if_pos hg]
      refine rowsOk_of t _ _ _ hkt (fun h => ?_) (fun h => ?_) hv v2 hch
      · rw [i1] at h; exact he (by simpa using h)
      · rw [i2] at h; exact w2 (by simpa using h)
    · rcases hk r List.mem_cons_self with h | h | h
      · exact absurd h k1
      · exact absurd h k2
      · exact absurd h k3
end Go.Proofs.YtecjoofjiockkaaDoor.Pure
namespace Go.Proofs.YtecjoofjiockkaaDoor.Pure
open Go.RowKit Go.Proofs.YtecjoofjiockkaaDoor.Pp Go.Proofs.YtecjoofjiockkaaDoor.Ext Go.Proofs.YtecjoofjiockkaaDoorW.PrintWords Go.Proofs.YtecjoofjiockkaaDoorW.PrintLast Go.Proofs.YtecjoofjiockkaaDoorW.PrintMore
set_option linter.unusedVariables false
set_option linter.unusedSimpArgs false
abbrev Chg1 := S53
theorem scrHunks_le : ∀ (l : List Hunk) (out : List Chg1), (scrHunks l out).length ≤ out.length + rowsAll l
  | [], out => by unfold scrHunks; omega
  | h :: t, out => by
    unfold scrHunks
    have h1 := scrHunks_le t (scrRows h.f5 (aheadF h.f0 h.f1) (aheadF h.f2 h.f3) out none)
    have h2 := scrRows_le h.f5 (aheadF h.f0 h.f1) (aheadF h.f2 h.f3) out none
    rw [Option.toList_none, List.length_nil] at h2
    rw [rowsAll_cons]; omega
noncomputable def normI (s : List Chg1) (n m : Int) : List Chg1 × Option Int := if n < 0 ∨ m < 0 then ([], some 1) else normS s n m
theorem valid_neg (s : List Chg1) (n m : Int) (h : n < 0 ∨ m < 0) : Ev (fun k => edits_Valid.f k s n m) (some 1) := by
  have j1 : Ev (fun k => edits_Valid.j0 k s n m true) (some 1) := Ev.step (f := fun _ => some (some 1)) (fun k => by rw [edits_Valid.j0, if_pos rfl]) (Ev.pure _)
  unfold edits_Valid.f
  by_cases h1 : n < 0
  · exact Ev.same (fun k => if_pos h1) j1
  · by_cases h2 : n > 4194304
    · exact Ev.same (fun k => by rw [if_neg h1, if_pos h2]) j1
    · have h3 : m < 0 := by omega
      exact Ev.same (fun k => by rw [if_neg h1, if_neg h2, if_pos h3]) j1
theorem norm_any (s : List Chg1) (hs : s.length ≤ 4000000000) (n m : Int) : Ev (fun k => edits_Normal.f k s n m) (normI s n m) := by
  unfold normI
  by_cases h : n < 0 ∨ m < 0
  · rw [if_pos h]
    exact Ev.bind (valid_neg s n m h) (Ev.same (fun k => by rw [if_neg (by simp)]; rfl) (Ev.pure _))
  · rw [if_neg h]
    exact norm_at s hs n m (by omega) (by omega)
noncomputable def endS (s : List Chg1) (n m : Int) : List Chg1 × Option Int := ((normI s n m).1, if (normI s n m).2 = some 1 then some 60 else (normI s n m).2)
noncomputable def scriptS (l : List Hunk) (n m : Int) : List Chg1 × Option Int := if (orderS l).isNone = true then endS (scrHunks l []) n m else ([], orderS l)
theorem rows_all (l : List Hunk) : rowsAll l = rowsSum l := rfl
theorem p_script (l : List Hunk) (hl : Hs l) (n m : Int) : Ev (fun k => hunks_Script.f k l n m) (scriptS l n m) := by
  have h1 := hl.count
  have h2 := hl.rows
  have h3 := scrHunks_le l []
  rw [rows_all, List.length_nil] at h3
  unfold hunks_Script.f scriptS
  refine Ev.same (fun k => if_pos ⟨by omega, by rw [rows_all]; omega⟩) (Ev.bind (order_at l hl) ?_)
  cases orderS l with
  | some e => exact Ev.same (fun k => if_neg (by simp)) (Ev.pure _)
  | none =>
    rw [if_pos (show (none : Option Int).isNone = true from rfl)]
    refine Ev.same (fun k => if_pos (show (none : Option Int).isNone = true from rfl)) (Ev.bind (norm_any _ (by omega) n m) ?_)
    exact Ev.pure _
end Go.Proofs.YtecjoofjiockkaaDoor.Pure
namespace Go.Proofs.YtecjoofjiockkaaDoor.Pure
open Go.RowKit Go.Proofs.YtecjoofjiockkaaDoor.Pp Go.Proofs.YtecjoofjiockkaaDoor.Ext Go.Proofs.YtecjoofjiockkaaDoorW.PrintWords Go.Proofs.YtecjoofjiockkaaDoorW.PrintLast Go.Proofs.YtecjoofjiockkaaDoorW.PrintMore
set_option linter.unusedVariables false
set_option linter.unusedSimpArgs false
def Pc.ns (p : Pc) : Int := nsOf p.st p.G
def Pc.eb (p : Pc) : Int := lastB p.G p.ns + (p.e - lastE p.G p.st)
structure Pok {β : Type} (f : ByteArray → β) (A B : List ByteArray) (p : Pc) : Prop where
  ne : p.G ≠ []
  s0 : 0 ≤ p.st
  b0 : 0 ≤ p.ns
  ok : okV (A.length : Int) (B.length : Int) p.G p.st p.ns
  le : lastE p.G p.st ≤ p.e
  en : p.e ≤ (A.length : Int)
  eb : p.eb ≤ (B.length : Int)
  com : comW f A B p.e p.G p.st p.ns
def Ch {β : Type} (f : ByteArray → β) (A B : List ByteArray) : List Pc → Int → Int → Prop
  | [], a, b => a ≤ (A.length : Int) ∧ b ≤ (B.length : Int)
  | p :: t, a, b => Pok f A B p ∧ a ≤ p.st ∧ p.st - a = p.ns - b ∧ Ch f A B t p.e p.eb
theorem com_ext {β : Type} {f : ByteArray → β} (A B : List ByteArray) (x e : Int) : ∀ (G : List Chg) (a b : Int), comW f A B (lastE G a) G a b → alike f A B (lastE G a) (lastB G b) (e - lastE G a) → comW f A B e G a b
  | [], a, b, h, h2 => h2
  | c :: t, a, b, h, h2 => ⟨h.1, com_ext A B x e t _ _ h.2 h2⟩
theorem com_snoc {β : Type} {f : ByteArray → β} (A B : List ByteArray) (x : Chg) : ∀ (G : List Chg) (a b : Int), comW f A B (lastE G a) G a b → alike f A B (lastE G a) (lastB G b) (x.f0 - lastE G a) → comW f A B (x.f0 + x.f1) (G ++ [x]) a b
  | [], a, b, h, h2 => ⟨h2, alike_nil _ _ _ _ _ _ (by omega)⟩
  | c :: t, a, b, h, h2 => ⟨h.1, com_snoc A B x t _ _ h.2 h2⟩
theorem ch_gr {β : Type} {f : ByteArray → β} (A B : List ByteArray) (c : Int) (hc : 0 ≤ c) : ∀ (t : List Chg) (st ns : Int) (G : List Chg) (a b : Int), G ≠ [] → nsOf st G = ns → 0 ≤ st → 0 ≤ ns → okV (A.length : Int) (B.length : Int) G st ns → comW f A B (lastE G st) G st ns →
    validP (A.length : Int) (B.length : Int) t (lastE G st) (lastB G ns) → comW f A B (A.length : Int) t (lastE G st) (lastB G ns) → a ≤ st → st - a = ns - b → Ch f A B (gr c (A.length : Int) st G (lastE G st) t) a b
  | [], st, ns, G, a, b, hG, hns, hs, hb, hv, hcm, hv2, hc2, h1, h2 => by
    subst hns
    have hv' : (A.length : Int) - lastE G st = (B.length : Int) - lastB G (nsOf st G) := hv2
    have g := lastB_le _ _ G st _ hv
    rw [gr]
    obtain ⟨y, hy⟩ : ∃ y, y = (if lastE G st + c < (A.length : Int) then lastE G st + c else (A.length : Int)) := ⟨_, rfl⟩
    rw [← hy]
    have hy1 : lastE G st ≤ y ∧ y ≤ (A.length : Int) := by rw [hy]; split <;> omega
    have ha := alike_sub (d' := y - lastE G st) (show alike f A B (lastE G st) (lastB G (nsOf st G)) ((A.length : Int) - lastE G st) from hc2) 0 (Int.le_refl _) (by omega)
    rw [Int.add_zero, Int.add_zero] at ha
    have heb : lastB G (nsOf st G) + (y - lastE G st) ≤ (B.length : Int) := by omega
    exact ⟨⟨hG, hs, hb, hv, hy1.1, hy1.2, heb, com_ext A B y y G st _ hcm ha⟩, h1, h2, hy1.2, heb⟩
  | x :: t, st, ns, G, a, b, hG, hns, hs, hb, hv, hcm, hv2, hc2, h1, h2 => by
    obtain ⟨hx, hvt⟩ := hv2
    obtain ⟨hcx, hct⟩ := hc2
    have hx0 := hx
    obtain ⟨q1, q2, q3, q4, q5, q6, q7, q8, q9, q10⟩ := hx0
    have g := lastB_le _ _ G st _ hv
    rw [gr]
    by_cases q : x.f0 - lastE G st ≤ 2 * c
    · rw [if_pos q]
      have := ch_gr A B c hc t st ns (G ++ [x]) a b (by simp) (by rw [ns_snoc st G hG]; exact hns) hs hb (okV_snoc _ _ x G st ns hv hx) (by rw [lastE_app]; exact com_snoc A B x G st ns hcm hcx)
        (by rw [lastE_app, lastB_app]; exact hvt) (by rw [lastE_app, lastB_app]; exact hct) h1 h2
      rw [lastE_app] at this
      exact this
    · rw [if_neg q]
      subst hns
      have ha := alike_sub hcx 0 c (Int.le_refl _) (by omega)
      rw [Int.add_zero, Int.add_zero] at ha
      have hb2 := alike_sub hcx (x.f0 - lastE G st - c) c (by omega) (by omega)
      rw [show lastE G st + (x.f0 - lastE G st - c) = x.f0 - c by omega, show lastB G (nsOf st G) + (x.f0 - lastE G st - c) = x.f2 - c by omega] at hb2
      have heb : lastB G (nsOf st G) + (lastE G st + c - lastE G st) ≤ (B.length : Int) := by omega
      have := ch_gr A B c hc t (x.f0 - c) (x.f2 - c) [x] (lastE G st + c) (lastB G (nsOf st G) + (lastE G st + c - lastE G st)) (by simp) (by show x.f2 - (x.f0 - (x.f0 - c)) = _; omega) (by omega) (by omega)
        ⟨⟨q1, q2, q3, by omega, q5, by omega, q7, by omega, q9, q10⟩, by omega, by omega⟩ ⟨by rw [show x.f0 - (x.f0 - c) = c by omega]; exact hb2, alike_nil _ _ _ _ _ _ (by show x.f0 + x.f1 - (x.f0 + x.f1) ≤ 0; omega)⟩ hvt hct (by omega) (by omega)
      exact ⟨⟨hG, hs, hb, hv, by show lastE G st ≤ lastE G st + c; omega, by show lastE G st + c ≤ _; omega, heb, com_ext A B (lastE G st + c) _ G st _ hcm (by rw [show lastE G st + c - lastE G st = c by omega]; exact ha)⟩, h1, h2, this⟩
theorem ch_grs {β : Type} {f : ByteArray → β} (A B : List ByteArray) (c : Int) (hc : 0 ≤ c) (L : List Chg) (hv : validP (A.length : Int) (B.length : Int) L 0 0) (hcm : comW f A B (A.length : Int) L 0 0) : Ch f A B (grs c 0 (A.length : Int) L) 0 0 := by
  cases L with
  | nil => exact ⟨by omega, by omega⟩
  | cons x t =>
    obtain ⟨hx, hvt⟩ := hv
    obtain ⟨hcx, hct⟩ := hcm
    obtain ⟨q1, q2, q3, q4, q5, q6, q7, q8, q9, q10⟩ := hx
    rw [grs]
    obtain ⟨st, hst⟩ : ∃ st, st = (if x.f0 - c < 0 then 0 else x.f0 - c) := ⟨_, rfl⟩
    rw [← hst]
    have h1 : 0 ≤ st ∧ st ≤ x.f0 := by rw [hst]; split <;> omega
    have ha := alike_sub hcx st (x.f0 - st) h1.1 (by omega)
    rw [Int.zero_add] at ha
    exact ch_gr A B c hc t st st [x] 0 0 (by simp) (by show x.f2 - (x.f0 - st) = _; omega) h1.1 h1.1 ⟨⟨q1, q2, q3, h1.2, q5, by omega, q7, by omega, q9, q10⟩, by omega, by omega⟩ ⟨ha, alike_nil _ _ _ _ _ _ (by show x.f0 + x.f1 - (x.f0 + x.f1) ≤ 0; omega)⟩ hvt hct h1.1 (by omega)
theorem com_runs (A B : List ByteArray) (va : validL A = true) (vb : validL B = true) (d : Nat) : ∀ (a b : Int), 0 ≤ a → 0 ≤ b → a + (d : Int) ≤ (A.length : Int) → b + (d : Int) ≤ (B.length : Int) → (∀ p ∈ runP a b d, whole (rdOf ByteArray.empty A p.f0) = whole (rdOf ByteArray.empty B p.f1)) → alike lw A B a b (d : Int) := by
  induction d with
  | zero => intro a b _ _ _ _ _; exact alike_nil _ _ _ _ _ _ (by omega)
  | succ d ih =>
    intro a b ha hb h1 h2 h i i0 i1
    by_cases hi : i = 0
    · subst hi
      have h3 := h ⟨a, b⟩ (by rw [runP]; exact List.mem_cons_self)
      have e1 := (valid_at' A a.toNat va (by omega)).1
      have e2 := (valid_at' B b.toNat vb (by omega)).1
      rw [Int.add_zero, Int.add_zero]
      unfold lw
      rw [e1, e2]
      exact congrArg _ h3
    · have := ih (a + 1) (b + 1) (by omega) (by omega) (by omega) (by omega) (fun p hp => h p (by rw [runP]; exact List.mem_cons_of_mem _ hp)) (i - 1) (by omega) (by omega)
      rw [show a + 1 + (i - 1) = a + i by omega, show b + 1 + (i - 1) = b + i by omega] at this
      exact this
theorem com_pairs (A B : List ByteArray) (va : validL A = true) (vb : validL B = true) : ∀ (L : List Chg) (a b : Int), validP (A.length : Int) (B.length : Int) L a b → 0 ≤ a → 0 ≤ b → a ≤ (A.length : Int) → (∀ p ∈ pairsL (A.length : Int) L a b, whole (rdOf ByteArray.empty A p.f0) = whole (rdOf ByteArray.empty B p.f1)) → comW lw A B (A.length : Int) L a b
  | [], a, b, hv, ha, hb, hn, h => by
    have hv' : (A.length : Int) - a = (B.length : Int) - b := hv
    have := com_runs A B va vb ((A.length : Int) - a).toNat a b ha hb (by omega) (by omega) h
    rw [show ((((A.length : Int) - a).toNat : Nat) : Int) = (A.length : Int) - a by omega] at this
    exact this
  | c :: t, a, b, hv, ha, hb, hn, h => by
    obtain ⟨⟨q1, q2, q3, q4, q5, q6, q7, q8, q9, q10⟩, hvt⟩ := hv
    have := com_runs A B va vb (c.f0 - a).toNat a b ha hb (by omega) (by omega) (fun p hp => h p (by rw [pairsL]; exact List.mem_append_left _ hp))
    rw [show (((c.f0 - a).toNat : Nat) : Int) = c.f0 - a by omega] at this
    exact ⟨this, com_pairs A B va vb t _ _ hvt (by omega) (by omega) (by omega) (fun p hp => h p (by rw [pairsL]; exact List.mem_append_right _ hp))⟩
theorem pok_nums {β : Type} {f : ByteArray → β} {A B : List ByteArray} (hA : A.length ≤ 4194304) (hB : B.length ≤ 4194304) {p : Pc} (h : Pok f A B p) : (cntOld (hk A B p).f5 : Int) = p.e - p.st ∧ (cntNew (hk A B p).f5 : Int) = p.eb - p.ns ∧
    (hk A B p).f0 = (if p.e - p.st > 0 then p.st + 1 else p.st) ∧ (hk A B p).f1 = p.e - p.st ∧ (hk A B p).f2 = (if p.eb - p.ns > 0 then p.ns + 1 else p.ns) ∧ (hk A B p).f3 = p.eb - p.ns ∧ p.st ≤ p.e ∧ p.ns ≤ p.eb := by
  have g := lastB_le _ _ p.G p.st p.ns h.ok
  have d := lastB_dM _ _ p.G p.st p.ns h.ok
  have e1 := h.le
  have e2 := h.en
  have e3 := h.eb
  have hok := okV_okG _ _ p.e h.en p.G p.st p.ns p.st p.ns h.ok (Int.le_refl _) (Int.le_refl _) h.le (fun hh => absurd hh h.ne)
  obtain ⟨c1, c2⟩ := rows_cnt A B p.e p.G p.st p.ns hok h.s0 h.b0
  have c2' : (cntNew (rowsG A B p.st p.G p.e) : Int) = p.eb - p.ns := by unfold Pc.eb; omega
  have s0 := h.s0
  have b0 := h.b0
  have w1 : wrap64 (p.st + 1) = p.st + 1 := w64' (by omega) (by omega)
  have hnb : p.ns ≤ p.eb := by unfold Pc.eb; omega
  have w2 : wrap64 (p.ns + 1) = p.ns + 1 := w64' (by omega) (by omega)
  refine ⟨c1, c2', ?_, c1, ?_, c2', by omega, hnb⟩
  · show stIf p.st (cntOld (rowsG A B p.st p.G p.e)) = _
    unfold stIf; rw [w1]
    by_cases z : 0 < cntOld (rowsG A B p.st p.G p.e)
    · rw [if_pos z, if_pos (by omega)]
    · rw [if_neg z, if_neg (by omega)]
  · show stIf p.ns (cntNew (rowsG A B p.st p.G p.e)) = _
    unfold stIf; rw [w2]
    by_cases z : 0 < cntNew (rowsG A B p.st p.G p.e)
    · rw [if_pos z, if_pos (by omega)]
    · rw [if_neg z, if_neg (by omega)]
theorem pok_old {β : Type} {f : ByteArray → β} {A B : List ByteArray} {p : Pc} (h : Pok f A B p) : oldT (hk A B p).f5 = cut A p.st p.e := rows_old A B p.e h.en p.G p.st p.ns h.ok h.s0 h.b0 h.le
theorem pok_new {β : Type} {f : ByteArray → β} {A B : List ByteArray} {p : Pc} (h : Pok f A B p) : (newT (hk A B p).f5).map f = (cut B p.ns p.eb).map f := rows_new f A B p.e h.en p.G p.st p.ns h.ok h.s0 h.b0 h.le h.com h.eb
theorem pok_hunk {A B : List ByteArray} (va : validL A = true) (vb : validL B = true) (hA : A.length ≤ 4194304) (hB : B.length ≤ 4194304) {p : Pc} (h : Pok lw A B p) : hunkOk (hk A B p) = true := by
  obtain ⟨n1, n2, n3, n4, n5, n6, n7, n8⟩ := pok_nums hA hB h
  have s0 := h.s0
  have b0 := h.b0
  have e2 := h.en
  have e3 := h.eb
  have hr : rowsOk (hk A B p).f5 false false false = true := by
    refine rowsOk_of _ _ _ _ (rows_kinds A B p.e p.G p.st) (fun h => by cases h) (fun h => by cases h) (by rw [pok_old h]; exact valid_cut va _ _) (by rw [valid_lw _ _ (pok_new h)]; exact valid_cut vb _ _) (Or.inr ?_)
    have ho := h.ok
    show ∃ r ∈ rowsG A B p.st p.G p.e, _
    cases hG : p.G with
    | nil => exact absurd hG h.ne
    | cons c t => rw [hG] at ho; exact rows_change A B p.e p.st p.ns c t ho.1 h.s0 h.b0
  unfold hunkOk
  have p1 : placeOk (hk A B p).f0 (hk A B p).f1 = true := by
    unfold placeOk; apply decide_eq_true; rw [n3, n4]; split <;> omega
  have p2 : placeOk (hk A B p).f2 (hk A B p).f3 = true := by
    unfold placeOk; apply decide_eq_true; rw [n5, n6]; split <;> omega
  have p3 : headOk (hk A B p).f4 = true := by
    show headOk ⟨#[]⟩ = true
    unfold headOk
    rw [decide_eq_true (show (⟨#[]⟩ : ByteArray).size ≤ 4096 by decide), decide_eq_false (fun hh => by obtain ⟨j, hj, _⟩ := hh; exact absurd hj (Nat.not_lt_zero _))]
    rfl
  rw [hr, p1, p2, p3, decide_eq_true (by rw [n4, n1]), decide_eq_true (by rw [n6, n2])]
  rfl
theorem pok_ahead {β : Type} {f : ByteArray → β} {A B : List ByteArray} (hA : A.length ≤ 4194304) (hB : B.length ≤ 4194304) {p : Pc} (h : Pok f A B p) : aheadI (hk A B p).f0 (hk A B p).f1 = p.st ∧ aheadI (hk A B p).f2 (hk A B p).f3 = p.ns := by
  obtain ⟨n1, n2, n3, n4, n5, n6, n7, n8⟩ := pok_nums hA hB h
  rw [n3, n4, n5, n6]
  unfold aheadI
  constructor <;> (split <;> omega)
theorem any_lw (x y : List ByteArray) (h : x.map lw = y.map lw) : x.any (fun s => !whole s) = y.any (fun s => !whole s) := by
  have e : ∀ l : List ByteArray, l.any (fun s => !whole s) = (l.map lw).any (fun z => !z.2) := fun l => by rw [List.any_map]; rfl
  rw [e, e, h]
theorem end_sides (l : List Row) : endOld l = (oldT l).any (fun s => !whole s) ∧ endNew l = (newT l).any (fun s => !whole s) := by
  unfold endOld endNew oldT newT
  rw [List.any_map, List.any_map, List.any_filter, List.any_filter]
  exact ⟨rfl, rfl⟩
theorem ch_order {A B : List ByteArray} (va : validL A = true) (vb : validL B = true) (hA : A.length ≤ 4194304) (hB : B.length ≤ 4194304) : ∀ (ps : List Pc) (a b : Int) (e o : Bool), Ch lw A B ps a b → (e = true → (A.length : Int) ≤ a) → (o = true → (B.length : Int) ≤ b) → ordL (ps.map (hk A B)) a b e o = true
  | [], a, b, e, o, _, _, _ => rfl
  | p :: t, a, b, e, o, h, he, ho => by
    obtain ⟨hp, h1, h2, h3⟩ := h
    obtain ⟨n1, n2, n3, n4, n5, n6, n7, n8⟩ := pok_nums hA hB hp
    obtain ⟨k1, k2⟩ := pok_ahead hA hB hp
    have e2 := hp.en
    have e3 := hp.eb
    rw [List.map_cons, ordL, k1, k2, n4, n6, if_neg (by omega), if_neg (by omega), if_pos (by omega), if_neg (fun hh => by have := he hh.1; omega), if_neg (fun hh => by have := ho hh.1; omega)]
    rw [show p.st + (p.e - p.st) = p.e by omega, show p.ns + (p.eb - p.ns) = p.eb by omega]
    refine ch_order va vb hA hB t p.e p.eb _ _ h3 (fun hh => ?_) (fun hh => ?_)
    · rcases Bool.or_eq_true _ _ ▸ hh with hh | hh
      · have := he hh; omega
      · rw [(end_sides _).1, pok_old hp] at hh
        have := cut_open va e2 hh; omega
    · rcases Bool.or_eq_true _ _ ▸ hh with hh | hh
      · have := ho hh; omega
      · rw [(end_sides _).2, any_lw _ _ (pok_new hp)] at hh
        have := cut_open vb e3 hh; omega
theorem ch_all {β : Type} {f : ByteArray → β} {A B : List ByteArray} : ∀ (ps : List Pc) (a b : Int), Ch f A B ps a b → ∀ p ∈ ps, Pok f A B p
  | [], a, b, h, p, hp => by cases hp
  | q :: t, a, b, h, p, hp => by
    rcases List.mem_cons.mp hp with rfl | hp
    · exact h.1
    · exact ch_all t _ _ h.2.2.2 p hp
theorem ch_orderS {A B : List ByteArray} (va : validL A = true) (vb : validL B = true) (hA : A.length ≤ 4194304) (hB : B.length ≤ 4194304) (ps : List Pc) (h : Ch lw A B ps 0 0) : orderS (ps.map (hk A B)) = none := by
  unfold orderS
  rw [if_pos (List.all_eq_true.mpr fun x hx => by obtain ⟨p, hp, rfl⟩ := List.mem_map.mp hx; exact pok_hunk va vb hA hB (ch_all ps _ _ h p hp)), if_pos (ch_order va vb hA hB ps 0 0 false false h (fun h => by cases h) (fun h => by cases h))]
theorem scr_put1 (rest : List Row) : ∀ (T : List ByteArray) (a b : Int) (out : List Chg) (cur : Option Chg), T ≠ [] → 0 ≤ a → 0 ≤ b → a + (T.length : Int) ≤ 5000000 → b + (T.length : Int) ≤ 5000000 → scrRows (putL 1 T ++ rest) a b out cur = scrRows rest (a + (T.length : Int)) (b + (T.length : Int)) (out ++ cur.toList) none
  | [], a, b, out, cur, h, _, _, _, _ => absurd rfl h
  | s :: T, a, b, out, cur, h, ha, hb, h1, h2 => by
    rw [List.length_cons] at h1 h2
    have w1 : wrap64 (a + 1) = a + 1 := w64' (by omega) (by omega)
    have w2 : wrap64 (b + 1) = b + 1 := w64' (by omega) (by omega)
    show scrRows ((⟨1, s⟩ : Row) :: (putL 1 T ++ rest)) a b out cur = _
    rw [scrRows, if_pos rfl, w1, w2, List.length_cons]
    cases T with
    | nil => rfl
    | cons r T =>
      rw [scr_put1 rest (r :: T) (a + 1) (b + 1) (out ++ cur.toList) none (by simp) (by omega) (by omega) (by omega) (by omega)]
      rw [show a + 1 + ((r :: T).length : Int) = a + (((r :: T).length + 1 : Nat) : Int) by omega, show b + 1 + ((r :: T).length : Int) = b + (((r :: T).length + 1 : Nat) : Int) by omega]
      simp
theorem scr_put2 (rest : List Row) (b : Int) (out : List Chg) (x0 x2 x3 : Int) : ∀ (T : List ByteArray) (a x1 : Int), 0 ≤ a → 0 ≤ x1 → a + (T.length : Int) ≤ 5000000 → x1 + (T.length : Int) ≤ 5000000 → scrRows (putL 2 T ++ rest) a b out (some ⟨x0, x1, x2, x3⟩) = scrRows rest (a + (T.length : Int)) b out (some ⟨x0, x1 + (T.length : Int), x2, x3⟩)
  | [], a, x1, _, _, _, _ => by
    show scrRows rest a b out _ = scrRows rest (a + 0) b out (some ⟨x0, x1 + 0, x2, x3⟩)
    rw [Int.add_zero, Int.add_zero]
  | s :: T, a, x1, ha, hx, h1, h2 => by
    rw [List.length_cons] at h1 h2
    have w1 : wrap64 (a + 1) = a + 1 := w64' (by omega) (by omega)
    have w2 : wrap64 (x1 + 1) = x1 + 1 := w64' (by omega) (by omega)
    show scrRows ((⟨2, s⟩ : Row) :: (putL 2 T ++ rest)) a b out _ = _
    rw [scrRows, if_neg (show ¬ (2 : Int) = 1 by decide), if_pos rfl, w1]
    show scrRows _ _ b out (some ⟨x0, wrap64 (x1 + 1), x2, x3⟩) = _
    rw [w2, scr_put2 rest b out x0 x2 x3 T (a + 1) (x1 + 1) (by omega) (by omega) (by omega) (by omega), List.length_cons, show a + 1 + (T.length : Int) = a + ((T.length + 1 : Nat) : Int) by omega, show x1 + 1 + (T.length : Int) = x1 + ((T.length + 1 : Nat) : Int) by omega]
theorem scr_put3 (rest : List Row) (a : Int) (out : List Chg) (x0 x1 x2 : Int) : ∀ (T : List ByteArray) (b x3 : Int), 0 ≤ b → 0 ≤ x3 → b + (T.length : Int) ≤ 5000000 → x3 + (T.length : Int) ≤ 5000000 → scrRows (putL 3 T ++ rest) a b out (some ⟨x0, x1, x2, x3⟩) = scrRows rest a (b + (T.length : Int)) out (some ⟨x0, x1, x2, x3 + (T.length : Int)⟩)
  | [], b, x3, _, _, _, _ => by
    show scrRows rest a b out _ = scrRows rest a (b + 0) out (some ⟨x0, x1, x2, x3 + 0⟩)
    rw [Int.add_zero, Int.add_zero]
  | s :: T, b, x3, ha, hx, h1, h2 => by
    rw [List.length_cons] at h1 h2
    have w1 : wrap64 (b + 1) = b + 1 := w64' (by omega) (by omega)
    have w2 : wrap64 (x3 + 1) = x3 + 1 := w64' (by omega) (by omega)
    show scrRows ((⟨3, s⟩ : Row) :: (putL 3 T ++ rest)) a b out _ = _
    rw [scrRows, if_neg (show ¬ (3 : Int) = 1 by decide), if_neg (show ¬ (3 : Int) = 2 by decide), w1]
    show scrRows _ a _ out (some ⟨x0, x1, x2, wrap64 (x3 + 1)⟩) = _
    rw [w2, scr_put3 rest a out x0 x1 x2 T (b + 1) (x3 + 1) (by omega) (by omega) (by omega) (by omega), List.length_cons, show b + 1 + (T.length : Int) = b + ((T.length + 1 : Nat) : Int) by omega, show x3 + 1 + (T.length : Int) = x3 + ((T.length + 1 : Nat) : Int) by omega]
theorem scr_open (r : Row) (l : List Row) (a b : Int) (out : List Chg) (h : nb r = false) : scrRows (r :: l) a b out none = scrRows (r :: l) a b out (some ⟨a, 0, b, 0⟩) := by
  unfold nb at h
  have h1 : ¬ r.f0 = 1 := by simpa using h
  rw [scrRows, scrRows, if_neg h1, if_neg h1]
  rfl
theorem scr_chg (A B : List ByteArray) (hA : A.length ≤ 4194304) (hB : B.length ≤ 4194304) (x : Chg) (a b : Int) (ha : 0 ≤ a) (hb : 0 ≤ b) (h : okC (A.length : Int) (B.length : Int) a b x) (rest : List Row) (out : List Chg) :
    scrRows (chgR A B x ++ rest) x.f0 x.f2 out none = scrRows rest (x.f0 + x.f1) (x.f2 + x.f3) out (some x) := by
  have hne := chg_len A B _ _ a b rfl rfl ha hb x h
  have hnb := chg_nb A B x
  obtain ⟨q1, q2, q3, q4, q5, q6, q7, q8, q9, q10⟩ := h
  have l1 := cut_length A x.f0 (x.f0 + x.f1) (by omega) (by omega) (by omega)
  have l2 := cut_length B x.f2 (x.f2 + x.f3) (by omega) (by omega) (by omega)
  have e1 : scrRows (chgR A B x ++ rest) x.f0 x.f2 out none = scrRows (chgR A B x ++ rest) x.f0 x.f2 out (some ⟨x.f0, 0, x.f2, 0⟩) := by
    cases hc : chgR A B x with
    | nil => exact absurd hc hne
    | cons r l => exact scr_open r (l ++ rest) _ _ out (hnb r (by rw [hc]; exact List.mem_cons_self))
  rw [e1]
  unfold chgR
  rw [List.append_assoc, scr_put2 _ _ _ _ _ _ _ _ _ (by omega) (by omega) (by omega) (by omega), scr_put3 _ _ _ _ _ _ _ _ _ (by omega) (by omega) (by omega) (by omega), show x.f0 + ((cut A x.f0 (x.f0 + x.f1)).length : Int) = x.f0 + x.f1 by omega,
    show x.f2 + ((cut B x.f2 (x.f2 + x.f3)).length : Int) = x.f2 + x.f3 by omega, show (0 : Int) + ((cut A x.f0 (x.f0 + x.f1)).length : Int) = x.f1 by omega, show (0 : Int) + ((cut B x.f2 (x.f2 + x.f3)).length : Int) = x.f3 by omega]
def apart : List Chg → Int → Prop
  | [], _ => True
  | c :: t, z => z < c.f0 ∧ apart t (c.f0 + c.f1)
def apartG (G : List Chg) : Prop := match G with
  | [] => True
  | c :: t => apart t (c.f0 + c.f1)
theorem scr_rows (A B : List ByteArray) (hA : A.length ≤ 4194304) (hB : B.length ≤ 4194304) (e : Int) (he : e ≤ (A.length : Int)) : ∀ (G : List Chg) (a b : Int) (out : List Chg) (cur : Option Chg), okV (A.length : Int) (B.length : Int) G a b → 0 ≤ a → 0 ≤ b → lastE G a ≤ e → lastB G b + (e - lastE G a) ≤ (B.length : Int) → apartG G → (cur ≠ none → apart G a) →
    scrRows (rowsG A B a G e) a b out cur = out ++ cur.toList ++ G
  | [], a, b, out, cur, hv, ha, hb, hl, hm, hg, hc => by
    have hl' : a ≤ e := hl
    have hm' : b + (e - a) ≤ (B.length : Int) := hm
    have l1 := cut_length A a e ha hl' he
    show scrRows (putL 1 (cut A a e)) a b out cur = _
    rw [List.append_nil]
    by_cases h : cut A a e = []
    · rw [h]; rfl
    · have := scr_put1 [] (cut A a e) a b out cur h ha hb (by omega) (by omega)
      rw [List.append_nil] at this
      rw [this]
      show (out ++ cur.toList) ++ [] = _
      rw [List.append_nil]
  | c :: t, a, b, out, cur, hv, ha, hb, hl, hm, hg, hc => by
    obtain ⟨hx, ht⟩ := hv
    have hx0 := hx
    obtain ⟨q1, q2, q3, q4, q5, q6, q7, q8, q9, q10⟩ := hx0
    have l1 := cut_length A a c.f0 ha q4 q5
    have hg2 : apartG t := by
      have hg' : apart t (c.f0 + c.f1) := hg
      cases t with
      | nil => trivial
      | cons y t => exact hg'.2
    have ih := scr_rows A B hA hB e he t (c.f0 + c.f1) (c.f2 + c.f3) (out ++ cur.toList) (some c) ht (by omega) (by omega) hl hm hg2 (fun _ => hg)
    rw [rowsG_cons]
    by_cases h : cut A a c.f0 = []
    · have hac : a = c.f0 := by rw [h] at l1; simp at l1; omega
      have hbc : b = c.f2 := by omega
      have hcur : cur = none := by
        cases cur with
        | none => rfl
        | some z => have := (hc (by simp)).1; omega
      subst hcur
      rw [h, hac, hbc]
      show scrRows (chgR A B c ++ _) _ _ out none = _
      rw [scr_chg A B hA hB c a b ha hb hx]
      rw [Option.toList_none, List.append_nil] at ih
      rw [ih]; simp
    · rw [scr_put1 _ (cut A a c.f0) a b out cur h ha hb (by omega) (by omega), show a + ((cut A a c.f0).length : Int) = c.f0 by omega, show b + ((cut A a c.f0).length : Int) = c.f2 by omega, scr_chg A B hA hB c a b ha hb hx, ih]
      simp
theorem scr_ch {β : Type} {f : ByteArray → β} {A B : List ByteArray} (hA : A.length ≤ 4194304) (hB : B.length ≤ 4194304) : ∀ (ps : List Pc) (a b : Int) (out : List Chg), Ch f A B ps a b → (∀ p ∈ ps, apartG p.G) → scrHunks (ps.map (hk A B)) out = out ++ (ps.map (·.G)).flatten
  | [], a, b, out, _, _ => by simp [scrHunks]
  | p :: t, a, b, out, h, hg => by
    obtain ⟨hp, h1, h2, h3⟩ := h
    obtain ⟨n1, n2, n3, n4, n5, n6, n7, n8⟩ := pok_nums hA hB hp
    have s0 := hp.s0
    have b0 := hp.b0
    have e2 := hp.en
    have e3 := hp.eb
    have k1 : aheadF (hk A B p).f0 (hk A B p).f1 = p.st := by
      rw [n3, n4]; unfold aheadF
      by_cases z : p.e - p.st > 0
      · rw [if_pos z, if_pos z, w64' (by omega) (by omega)]; omega
      · rw [if_neg z, if_neg z]
    have k2 : aheadF (hk A B p).f2 (hk A B p).f3 = p.ns := by
      rw [n5, n6]; unfold aheadF
      by_cases z : p.eb - p.ns > 0
      · rw [if_pos z, if_pos z, w64' (by omega) (by omega)]; omega
      · rw [if_neg z, if_neg z]
    rw [List.map_cons, scrHunks, k1, k2]
    show scrHunks _ (scrRows (rowsG A B p.st p.G p.e) _ _ _ _) = _
    rw [scr_rows A B hA hB p.e hp.en p.G p.st p.ns out none hp.ok hp.s0 hp.b0 hp.le hp.eb (hg p List.mem_cons_self) (fun hh => absurd rfl hh), scr_ch hA hB t _ _ _ h3 (fun q hq => hg q (List.mem_cons_of_mem _ hq))]
    simp
theorem gr_flat (c n : Int) : ∀ (t : List Chg) (st : Int) (G : List Chg) (last : Int), ((gr c n st G last t).map (·.G)).flatten = G ++ t
  | [], st, G, last => by rw [gr]; simp
  | x :: t, st, G, last => by
    rw [gr]
    by_cases q : x.f0 - last ≤ 2 * c
    · rw [if_pos q, gr_flat c n t, List.append_assoc]; rfl
    · rw [if_neg q, List.map_cons, List.flatten_cons, gr_flat c n t]; rfl
theorem grs_flat (c n : Int) (L : List Chg) : ((grs c 0 n L).map (·.G)).flatten = L := by
  cases L with
  | nil => rfl
  | cons x t => rw [grs, gr_flat]; rfl
theorem apart_snoc (x : Chg) : ∀ (t : List Chg) (z : Int), apart t z → lastE t z < x.f0 → apart (t ++ [x]) z
  | [], z, h, h2 => ⟨h2, trivial⟩
  | c :: t, z, h, h2 => ⟨h.1, apart_snoc x t _ h.2 h2⟩
theorem gr_apart (c n : Int) : ∀ (t : List Chg) (st : Int) (G : List Chg) (last : Int), G ≠ [] → lastE G 0 = last → apartG G → apart t last → ∀ p ∈ gr c n st G last t, apartG p.G
  | [], st, G, last, h0, h1, h2, h3, p, hp => by
    rw [gr] at hp
    obtain rfl := List.mem_singleton.mp hp
    exact h2
  | x :: t, st, G, last, h0, h1, h2, h3, p, hp => by
    rw [gr] at hp
    by_cases q : x.f0 - last ≤ 2 * c
    · rw [if_pos q] at hp
      refine gr_apart c n t st (G ++ [x]) _ (by simp) (lastE_app x G 0) ?_ h3.2 p hp
      cases G with
      | nil => exact absurd rfl h0
      | cons y g => exact apart_snoc x g _ h2 (by have h1' : lastE g (y.f0 + y.f1) = last := h1; have := h3.1; omega)
    · rw [if_neg q] at hp
      rcases List.mem_cons.mp hp with rfl | hp
      · exact h2
      · exact gr_apart c n t (x.f0 - c) [x] _ (by simp) rfl trivial h3.2 p hp
theorem grs_apart (c n : Int) (L : List Chg) (z : Int) (h : apart L z) : ∀ p ∈ grs c 0 n L, apartG p.G := by
  cases L with
  | nil => intro p hp; cases hp
  | cons x t => exact gr_apart c n t _ [x] _ (by simp) rfl trivial h.2
theorem nrm_apart (n m : Int) : ∀ (s : List Chg) (pa pb qa qb z : Int), validP n m s qa qb → pa ≤ qa → (pa < qa ∨ pb < qb) → z < pa → apart (nrm s pa pb qa qb) z
  | [], pa, pb, qa, qb, z, hv, h1, h2, h3 => by
    simp only [nrm]
    rw [gap_some h2]
    exact ⟨h3, trivial⟩
  | c :: t, pa, pb, qa, qb, z, hv, h1, h2, h3 => by
    obtain ⟨⟨q1, q2, q3, q4, q5, q6, q7, q8, q9, q10⟩, hv2⟩ := hv
    simp only [nrm]
    by_cases q : qa < c.f0
    · rw [if_pos q, gap_some h2]
      refine ⟨h3, ?_⟩
      show apart (nrm t c.f0 c.f2 (c.f0 + c.f1) (c.f2 + c.f3)) (pa + (qa - pa))
      exact nrm_apart n m t _ _ _ _ _ hv2 (by omega) (by omega) (by omega)
    · rw [if_neg q]
      exact nrm_apart n m t _ _ _ _ _ hv2 (by omega) (by omega) h3
theorem nrm_apart0 (n m : Int) (s : List Chg) (hv : validP n m s 0 0) : apart (nrm s 0 0 0 0) (-1) := by
  cases s with
  | nil => show apart (gap 0 0 0 0) (-1); rw [gap_none]; trivial
  | cons c t =>
    obtain ⟨h, hv2⟩ := hv
    rw [nrm_start c t n m h]
    obtain ⟨q1, q2, q3, q4, q5, q6, q7, q8, q9, q10⟩ := h
    exact nrm_apart n m t _ _ _ _ _ hv2 (by omega) (by omega) (by omega)
theorem nrm_id (n m : Int) : ∀ (t : List Chg) (c : Chg), validP n m t (c.f0 + c.f1) (c.f2 + c.f3) → 0 ≤ c.f1 → 0 ≤ c.f3 → (c.f1 ≠ 0 ∨ c.f3 ≠ 0) → apart t (c.f0 + c.f1) → nrm t c.f0 c.f2 (c.f0 + c.f1) (c.f2 + c.f3) = c :: t
  | [], c, hv, h1, h2, h3, h4 => by
    simp only [nrm]
    rw [gap_some (by omega), show c.f0 + c.f1 - c.f0 = c.f1 by omega, show c.f2 + c.f3 - c.f2 = c.f3 by omega]
  | x :: t, c, hv, h1, h2, h3, h4 => by
    obtain ⟨⟨q1, q2, q3, q4, q5, q6, q7, q8, q9, q10⟩, hv2⟩ := hv
    simp only [nrm]
    rw [if_pos h4.1, gap_some (by omega), nrm_id n m t x hv2 q1 q2 q3 h4.2, show c.f0 + c.f1 - c.f0 = c.f1 by omega, show c.f2 + c.f3 - c.f2 = c.f3 by omega]
    rfl
theorem norm_id (n m : Int) (hn : 0 ≤ n ∧ n ≤ 4194304) (hm : 0 ≤ m ∧ m ≤ 4194304) (L : List Chg) (hv : validP n m L 0 0) (h : apart L (-1)) : normS L n m = (L, none) := by
  have h1 : validS L n m = none := by unfold validS; rw [if_neg (by omega), errP_pos hv]
  unfold normS
  rw [h1, if_pos (show (none : Option Int).isNone = true from rfl)]
  cases L with
  | nil => show (gap 0 0 0 0, none) = _; rw [gap_none]
  | cons c t =>
    obtain ⟨hc, hv2⟩ := hv
    rw [nrm_start c t n m hc]
    obtain ⟨q1, q2, q3, q4, q5, q6, q7, q8, q9, q10⟩ := hc
    rw [nrm_id n m t c hv2 q1 q2 q3 h.2]
end Go.Proofs.YtecjoofjiockkaaDoor.Pure
namespace Go.Proofs.YtecjoofjiockkaaDoor.Pure
open Go.RowKit Go.Proofs.YtecjoofjiockkaaDoor.Pp Go.Proofs.YtecjoofjiockkaaDoor.Ext Go.Proofs.YtecjoofjiockkaaDoorW.PrintWords Go.Proofs.YtecjoofjiockkaaDoorW.PrintLast Go.Proofs.YtecjoofjiockkaaDoorW.PrintMore
set_option linter.unusedVariables false
set_option linter.unusedSimpArgs false
def bare1 (p : Pc) : Prop := ∃ x, p.G = [x] ∧ p.st = x.f0 ∧ p.e = x.f0 + x.f1
theorem gr_bare (n m : Int) : ∀ (t : List Chg) (y : Chg) (b : Int), y.f0 + y.f1 ≤ n → validP n m t (y.f0 + y.f1) b → apart t (y.f0 + y.f1) → ∀ p ∈ gr 0 n y.f0 [y] (y.f0 + y.f1) t, bare1 p
  | [], y, b, hn, hv, ha, p, hp => by
    rw [gr] at hp
    obtain rfl := List.mem_singleton.mp hp
    refine ⟨y, rfl, rfl, ?_⟩
    show (if y.f0 + y.f1 + 0 < n then y.f0 + y.f1 + 0 else n) = _
    split <;> omega
  | x :: t, y, b, hn, hv, ha, p, hp => by
    obtain ⟨⟨q1, q2, q3, q4, q5, q6, q7, q8, q9, q10⟩, ht⟩ := hv
    rw [gr, if_neg (by have := ha.1; omega)] at hp
    rcases List.mem_cons.mp hp with rfl | hp
    · exact ⟨y, rfl, rfl, by show y.f0 + y.f1 + 0 = _; omega⟩
    · rw [Int.sub_zero] at hp
      exact gr_bare n m t x _ (by omega) ht ha.2 p hp
theorem grs_bare (n m : Int) (L : List Chg) (hv : validP n m L 0 0) (ha : apart L (-1)) : ∀ p ∈ grs 0 0 n L, bare1 p := by
  cases L with
  | nil => intro p hp; cases hp
  | cons x t =>
    obtain ⟨⟨q1, q2, q3, q4, q5, q6, q7, q8, q9, q10⟩, ht⟩ := hv
    intro p hp
    rw [grs, if_neg (by omega), Int.sub_zero] at hp
    exact gr_bare n m t x _ (by omega) ht ha.2 p hp
theorem gr_two (n m c : Int) (hc : 0 ≤ c) : ∀ (t : List Chg) (st : Int) (G : List Chg) (a b : Int), 0 ≤ a → validP n m t a b → 2 ≤ (gr c n st G a t).length → c < n
  | [], st, G, a, b, h0, hv, h => by
    rw [gr] at h
    simp at h
  | x :: t, st, G, a, b, h0, hv, h => by
    obtain ⟨⟨q1, q2, q3, q4, q5, q6, q7, q8, q9, q10⟩, ht⟩ := hv
    rw [gr] at h
    by_cases q : x.f0 - a ≤ 2 * c
    · rw [if_pos q] at h
      exact gr_two n m c hc t _ _ _ _ (by omega) ht h
    · omega
theorem grs_two (n m c : Int) (hc : 0 ≤ c) (L : List Chg) (hv : validP n m L 0 0) (h : 2 ≤ (grs c 0 n L).length) : c < n := by
  cases L with
  | nil => exact absurd h (by simp [grs])
  | cons x t =>
    obtain ⟨⟨q1, q2, q3, q4, q5, q6, q7, q8, q9, q10⟩, ht⟩ := hv
    exact gr_two n m c hc t _ _ _ _ (by omega) ht h
theorem bare_rows (A B : List ByteArray) (p : Pc) (h : bare1 p) : ∀ r ∈ (hk A B p).f5, r.f0 ≠ 1 := by
  obtain ⟨x, h1, h2, h3⟩ := h
  intro r hr
  have e : (hk A B p).f5 = putL 1 (cut A x.f0 x.f0) ++ (chgR A B x ++ putL 1 (cut A (x.f0 + x.f1) (x.f0 + x.f1))) := by
    show rowsG A B p.st p.G p.e = _
    rw [h1, h2, h3, rowsG_cons]; rfl
  rw [e, cut_self, cut_self] at hr
  have hr2 : r ∈ chgR A B x := by simpa [putL] using hr
  have := chg_nb A B x r hr2
  unfold nb at this
  simpa using this
end Go.Proofs.YtecjoofjiockkaaDoor.Pure
namespace Go.Proofs.YtecjoofjiockkaaDoor.Pure
open Go.RowKit Go.Proofs.YtecjoofjiockkaaDoor.Pp Go.Proofs.YtecjoofjiockkaaDoor.Ext Go.Proofs.YtecjoofjiockkaaDoorW.PrintWords Go.Proofs.YtecjoofjiockkaaDoorW.PrintLast Go.Proofs.YtecjoofjiockkaaDoorW.PrintMore
set_option linter.unusedVariables false
set_option linter.unusedSimpArgs false
theorem rows_text (A B : List ByteArray) (e : Int) : ∀ (G : List Chg) (a : Int), ∀ r ∈ rowsG A B a G e, r.f1 ∈ A ∨ r.f1 ∈ B
  | [], a, r, hr => by
    obtain ⟨s, hs, rfl⟩ := List.mem_map.mp hr
    exact Or.inl (List.mem_of_mem_take (List.mem_of_mem_drop hs))
  | c :: t, a, r, hr => by
    rw [rowsG] at hr
    rcases List.mem_append.mp hr with h | h
    · obtain ⟨s, hs, rfl⟩ := List.mem_map.mp h
      exact Or.inl (List.mem_of_mem_take (List.mem_of_mem_drop hs))
    rcases List.mem_append.mp h with h | h
    · obtain ⟨s, hs, rfl⟩ := List.mem_map.mp h
      exact Or.inl (List.mem_of_mem_take (List.mem_of_mem_drop hs))
    rcases List.mem_append.mp h with h | h
    · obtain ⟨s, hs, rfl⟩ := List.mem_map.mp h
      exact Or.inr (List.mem_of_mem_take (List.mem_of_mem_drop hs))
    exact rows_text A B e t _ r h
theorem rows_len (A B : List ByteArray) (e : Int) (he : e ≤ (A.length : Int)) : ∀ (G : List Chg) (a b : Int), okV (A.length : Int) (B.length : Int) G a b → 0 ≤ a → 0 ≤ b → lastE G a ≤ e → ((rowsG A B a G e).length : Int) ≤ (e - a) + (lastB G b - b)
  | [], a, b, h, ha, hb, hl => by
    have hl' : a ≤ e := hl
    have := cut_length A a e ha hl' he
    rw [rowsG, putL_length]
    show _ ≤ (e - a) + (b - b)
    omega
  | c :: t, a, b, h, ha, hb, hl => by
    obtain ⟨⟨q1, q2, q3, q4, q5, q6, q7, q8, q9, q10⟩, ht⟩ := h
    have l1 := cut_length A a c.f0 ha q4 q5
    have l2 := cut_length A c.f0 (c.f0 + c.f1) (by omega) (by omega) (by omega)
    have l3 := cut_length B c.f2 (c.f2 + c.f3) (by omega) (by omega) (by omega)
    have := rows_len A B e he t _ _ ht (by omega) (by omega) hl
    rw [rowsG, List.length_append, List.length_append, List.length_append, putL_length, putL_length, putL_length]
    show _ ≤ (e - a) + (lastB t (c.f2 + c.f3) - b)
    omega
theorem pok_small {A B : List ByteArray} (hA : A.length + B.length ≤ 1048576) (hsA : ∀ s ∈ A, s.size ≤ 1048576) (hsB : ∀ s ∈ B, s.size ≤ 1048576) {p : Pc} (h : Pok lw A B p) : Small (hk A B p) ∧ ((hk A B p).f5.length : Int) ≤ (p.e - p.st) + (p.eb - p.ns) := by
  obtain ⟨n1, n2, n3, n4, n5, n6, n7, n8⟩ := pok_nums (A := A) (B := B) (by omega) (by omega) h
  have s0 := h.s0
  have b0 := h.b0
  have e1 := h.le
  have e2 := h.en
  have e3 := h.eb
  have hr := rows_len A B p.e h.en p.G p.st p.ns h.ok h.s0 h.b0 h.le
  have hr2 : ((hk A B p).f5.length : Int) ≤ (p.e - p.st) + (p.eb - p.ns) := by
    show ((rowsG A B p.st p.G p.e).length : Int) ≤ _
    unfold Pc.eb; omega
  refine ⟨⟨by omega, fun r hr => ?_, by show (0 : Nat) ≤ _; omega, by rw [n3]; split <;> omega, by rw [n5]; split <;> omega⟩, hr2⟩
  rcases rows_text A B p.e p.G p.st r hr with h | h
  · exact hsA _ h
  · exact hsB _ h
theorem ch_rows {A B : List ByteArray} (hA : A.length + B.length ≤ 1048576) (hsA : ∀ s ∈ A, s.size ≤ 1048576) (hsB : ∀ s ∈ B, s.size ≤ 1048576) : ∀ (ps : List Pc) (a b : Int), Ch lw A B ps a b → (rowsSum (ps.map (hk A B)) : Int) ≤ ((A.length : Int) - a) + ((B.length : Int) - b)
  | [], a, b, h => by
    obtain ⟨h1, h2⟩ := h
    show ((0 : Nat) : Int) ≤ _
    omega
  | p :: t, a, b, h => by
    obtain ⟨hp, h1, h2, h3⟩ := h
    have := ch_rows hA hsA hsB t _ _ h3
    have hr := (pok_small hA hsA hsB hp).2
    rw [List.map_cons, rowsSum_cons]
    omega
theorem ch_hs {A B : List ByteArray} (hA : A.length + B.length ≤ 1048576) (hsA : ∀ s ∈ A, s.size ≤ 1048576) (hsB : ∀ s ∈ B, s.size ≤ 1048576) (ps : List Pc) (hl : ps.length ≤ 1048576) (h : Ch lw A B ps 0 0) : Hs (ps.map (hk A B)) := by
  have := ch_rows hA hsA hsB ps 0 0 h
  refine ⟨fun x hx => ?_, by rw [List.length_map]; exact hl, by omega⟩
  obtain ⟨p, hp, rfl⟩ := List.mem_map.mp hx
  exact (pok_small hA hsA hsB (ch_all ps _ _ h p hp)).1
theorem gr_count (c n : Int) : ∀ (t : List Chg) (st : Int) (G : List Chg) (last : Int), (gr c n st G last t).length ≤ t.length + 1
  | [], st, G, last => by rw [gr]; simp
  | x :: t, st, G, last => by
    rw [gr]
    split
    · have := gr_count c n t st (G ++ [x]) (x.f0 + x.f1); rw [List.length_cons]; omega
    · have := gr_count c n t (x.f0 - c) [x] (x.f0 + x.f1); rw [List.length_cons, List.length_cons]; omega
theorem grs_count (c n : Int) (L : List Chg) : (grs c 0 n L).length ≤ L.length := by
  cases L with
  | nil => exact Nat.le_refl _
  | cons x t => exact gr_count c n t _ [x] _
theorem bt_apart {S : List Chg} {A B : List ByteArray} {L : List Chg} (h : Bt S A B L) : apart L (-1) := by
  have hn := h.norm
  unfold normS at hn
  split at hn
  · rename_i hx
    have hv : validS S (A.length : Int) (B.length : Int) = none := by simpa using hx
    rw [← (Prod.mk.inj hn).1]
    exact nrm_apart0 _ _ S (validS_none hv).2.2
  · rename_i hx
    have h5 := (Prod.mk.inj hn).2
    rw [h5] at hx
    exact absurd rfl hx
theorem bt_script {S : List Chg} {A B : List ByteArray} {L : List Chg} (h : Bt S A B L) (c : Int) (hc : 0 ≤ c) : Ch lw A B (grs c 0 (A.length : Int) L) 0 0 ∧ scriptS ((grs c 0 (A.length : Int) L).map (hk A B)) (A.length : Int) (B.length : Int) = (L, none) ∧ L.length ≤ S.length + 1 := by
  have la := h.la
  have lb := h.lb
  obtain ⟨h1, h2, h3, h4⟩ := normS_valid h.norm
  have hap := bt_apart h
  have hch := ch_grs A B c hc L h3 (com_pairs A B h.va h.vb L 0 0 h3 (Int.le_refl _) (Int.le_refl _) (by omega) h.whole)
  refine ⟨hch, ?_, h4⟩
  unfold scriptS
  rw [ch_orderS h.va h.vb la lb _ hch, if_pos (show (none : Option Int).isNone = true from rfl), scr_ch la lb _ 0 0 [] hch (grs_apart c _ L _ hap), List.nil_append, grs_flat]
  unfold endS normI
  rw [if_neg (by omega), norm_id _ _ (by omega) (by omega) L h3 hap]
  rfl
theorem rd_mid (pre : List Hunk) (h : Hunk) (t : List Hunk) : rd_T41 (pre ++ h :: t) (pre.length : Int) = h := by
  rw [rd_hunk, List.getD_eq_getElem?_getD, List.getElem?_append_right (Nat.le_refl _), Nat.sub_self]; rfl
end Go.Proofs.YtecjoofjiockkaaDoor.Pure
namespace Go.Proofs.YtecjoofjiockkaaDoor.Pure
open Go.RowKit Go.Proofs.YtecjoofjiockkaaDoor.Pp Go.Proofs.YtecjoofjiockkaaDoor.Ext Go.Proofs.YtecjoofjiockkaaDoorW.PrintWords Go.Proofs.YtecjoofjiockkaaDoorW.PrintLast Go.Proofs.YtecjoofjiockkaaDoorW.PrintMore
set_option linter.unusedVariables false
set_option linter.unusedSimpArgs false
theorem ar_texts (A : List ByteArray) (hA : A.length ≤ 4000000000) (d : Nat) : ∀ i : Nat, i + d = A.length → Ev (fun k => selvagelaw10_sameTexts.l0 k A A (i : Int)) true := by
  induction d with
  | zero =>
    intro i h
    exact Ev.step (f := fun _ => some true) (fun k => by rw [selvagelaw10_sameTexts.l0, if_neg (by omega)]) (Ev.pure _)
  | succ d ih =>
    intro i h
    have w1 : wrap64 ((i : Int) + 1) = ((i + 1 : Nat) : Int) := w_add i 1 (by omega)
    exact Ev.step (fun k => by rw [selvagelaw10_sameTexts.l0, if_pos (by omega), if_pos (by omega), if_pos (by omega), if_pos rfl, w1]) (ih (i + 1) (by omega))
theorem ar_at (A : List ByteArray) (hA : A.length ≤ 1048576) (st e : Int) (h0 : 0 ≤ st) (h1 : st ≤ e) (h2 : e ≤ (A.length : Int)) : Ev (fun k => selvagelaw10_at.f k (cut A st e) st A) true := by
  have hl := cut_length A st e h0 h1 h2
  have w : wrap64 (st + ((cut A st e).length : Int)) = e := by rw [w64' (by omega) (by omega)]; omega
  have hs : Ev (fun k => selvagelaw10_sameTexts.f k (cut A st e) (cut A st e)) true := by
    unfold selvagelaw10_sameTexts.f
    exact Ev.same (fun k => if_pos rfl) (ar_texts (cut A st e) (by omega) (cut A st e).length 0 (by omega))
  refine Ev.same (fun k => by unfold selvagelaw10_at.f; rw [if_pos (show st ≥ 0 from h0), w, if_pos h2, if_pos h0, if_pos h1]) ?_
  exact Ev.bind hs (Ev.pure _)
theorem ar_rows (l : List Hunk) (hl : l.length ≤ 1048576) (S : List Chg) (A B : List ByteArray) (c : Int) (i : Nat) (hi : i < l.length) (h : Hunk) (hrd : rd_T41 l (i : Int) = h) (hr : h.f5.length ≤ 4000000000) (hb : c = 0 → ∀ r ∈ h.f5, r.f0 ≠ 1)
    (hn : Ev (fun k => selvagelaw10_HunksAround.l1 k l ((i + 1 : Nat) : Int) S A B c) true) (d : Nat) : ∀ j : Nat, j + d = h.f5.length → Ev (fun k => selvagelaw10_HunksAround.l2 k l (i : Int) (j : Int) S A B c) true := by
  have c0 : (0 : Int) ≤ (i : Int) := by omega
  have c1 : (i : Int) < (l.length : Int) := by omega
  have w1 : wrap64 ((i : Int) + 1) = ((i + 1 : Nat) : Int) := w_add i 1 (by omega)
  induction d with
  | zero =>
    intro j hj
    have c2 : ¬ (j : Int) < (h.f5.length : Int) := by omega
    exact Ev.step (fun k => by rw [selvagelaw10_HunksAround.l2, if_pos c0, if_pos c1, hrd, if_neg c2, w1]) hn
  | succ d ih =>
    intro j hj
    have c2 : (j : Int) < (h.f5.length : Int) := by omega
    have c3 : (0 : Int) ≤ (j : Int) := by omega
    have w2 : wrap64 ((j : Int) + 1) = ((j + 1 : Nat) : Int) := w_add j 1 (by omega)
    by_cases hc : c = 0
    · have hk := hb hc (h.f5.getD j z56) (by rw [List.getD_eq_getElem?_getD, List.getElem?_eq_getElem (by omega)]; exact List.getElem_mem (by omega))
      have hr2 := rd_row h.f5 j
      exact Ev.step (fun k => by rw [selvagelaw10_HunksAround.l2, if_pos c0, if_pos c1, hrd, if_pos c2, if_pos hc, if_pos c3, hr2, if_neg hk, w2]) (ih (j + 1) (by omega))
    · exact Ev.step (fun k => by rw [selvagelaw10_HunksAround.l2, if_pos c0, if_pos c1, hrd, if_pos c2, if_neg hc, w2]) (ih (j + 1) (by omega))
theorem ar_step (l : List Hunk) (hl : l.length ≤ 1048576) (S : List Chg) (A B : List ByteArray) (hA : A.length ≤ 1048576) (c : Int) (i : Nat) (hi : i < l.length) (h : Hunk) (hrd : rd_T41 l (i : Int) = h) (hr : h.f5.length ≤ 1000000000) (hb : c = 0 → ∀ r ∈ h.f5, r.f0 ≠ 1)
    (st e : Int) (h0 : 0 ≤ st) (h1 : st ≤ e) (h2 : e ≤ (A.length : Int)) (ho : oldT h.f5 = cut A st e) (hf0 : h.f0 = if e - st > 0 then st + 1 else st) (hf1 : h.f1 = e - st)
    (hn : Ev (fun k => selvagelaw10_HunksAround.l1 k l ((i + 1 : Nat) : Int) S A B c) true) : Ev (fun k => selvagelaw10_HunksAround.l1 k l (i : Int) S A B c) true := by
  have c0 : (0 : Int) ≤ (i : Int) := by omega
  have c1 : (i : Int) < (l.length : Int) := by omega
  have hs := sides_at h.f0 h.f1 h.f2 h.f3 h.f4 h.f5 hr
  rw [ho] at hs
  have hrows := ar_rows l hl S A B c i hi h hrd (by omega) hb hn h.f5.length 0 (by omega)
  have h3 : Ev (fun k => selvagelaw10_HunksAround.j3 k l (i : Int) (cut A st e) st S A B c) true := Ev.step (fun k => by rw [selvagelaw10_HunksAround.j3]) (Ev.bind (ar_at A hA st e h0 h1 h2) (Ev.same (fun k => if_pos rfl) hrows))
  refine Ev.step (fun k => by rw [selvagelaw10_HunksAround.l1, if_pos c1, if_pos c0, hrd]) (Ev.bind hs ?_)
  by_cases q : h.f1 > 0
  · have w : wrap64 (h.f0 - 1) = st := by rw [hf0, if_pos (by omega), w64' (by omega) (by omega)]; omega
    exact Ev.same (fun k => by rw [if_pos q, w]) h3
  · have w : h.f0 = st := by rw [hf0, if_neg (by omega)]
    exact Ev.same (fun k => by rw [if_neg q, w]) h3
theorem ar_loop {S : List Chg} {A B : List ByteArray} {L : List Chg} (hb : Bt S A B L) (hA : A.length + B.length ≤ 1048576) (hsA : ∀ s ∈ A, s.size ≤ 1048576) (hsB : ∀ s ∈ B, s.size ≤ 1048576) (c : Int) (hc : 0 ≤ c) (ps : List Pc) (hps : ps = grs c 0 (A.length : Int) L) (hch : Ch lw A B ps 0 0) (hlen : ps.length ≤ 1048576) (hfew : c < (A.length : Int) ∨ ps.length < 2) (hbare : c = 0 → ∀ p ∈ ps, bare1 p) :
    ∀ (qs pre : List Pc), ps = pre ++ qs → Ev (fun k => selvagelaw10_HunksAround.l1 k (ps.map (hk A B)) (pre.length : Int) S A B c) true
  | [], pre, h => by
    have hpl : pre.length = ps.length := by rw [h, List.append_nil]
    have c1 : ¬ (pre.length : Int) < ((ps.map (hk A B)).length : Int) := by rw [List.length_map]; omega
    by_cases q : c < (A.length : Int)
    · exact Ev.step (fun k => by rw [selvagelaw10_HunksAround.l1, if_neg c1, if_pos q]) (Ev.bind ev_works (Ev.pure _))
    · have c2 : ((ps.map (hk A B)).length : Int) < 2 := by rw [List.length_map]; omega
      exact Ev.step (fun k => by rw [selvagelaw10_HunksAround.l1, if_neg c1, if_neg q, if_pos c2]) (Ev.bind ev_works (Ev.pure _))
  | p :: qs, pre, h => by
    have hmem : p ∈ ps := by rw [h]; exact List.mem_append_right _ List.mem_cons_self
    have hp := ch_all _ _ _ hch p hmem
    obtain ⟨n1, n2, n3, n4, n5, n6, n7, n8⟩ := pok_nums hb.la hb.lb hp
    have hsml := (pok_small hA hsA hsB hp).1
    have hl2 : ps.length = pre.length + (qs.length + 1) := by rw [h]; simp
    have hrd : rd_T41 (ps.map (hk A B)) (pre.length : Int) = hk A B p := by
      rw [h, List.map_append, List.map_cons]
      have := rd_mid (pre.map (hk A B)) (hk A B p) (qs.map (hk A B))
      rw [List.length_map] at this
      exact this
    have ih := ar_loop hb hA hsA hsB c hc ps hps hch hlen hfew hbare qs (pre ++ [p]) (by rw [h]; simp)
    rw [List.length_append, List.length_singleton] at ih
    have hr := hsml.rows
    exact ar_step (ps.map (hk A B)) (by rw [List.length_map]; exact hlen) S A B (by omega) c pre.length (by rw [List.length_map]; omega) (hk A B p) hrd (by omega) (fun h0 => bare_rows A B p (hbare h0 p hmem)) p.st p.e hp.s0 n7 hp.en (pok_old hp) n3 n4 ih
theorem ar_scripts (l : List Hunk) (S : List Chg) (A B : List ByteArray) (c : Int) (L : List Chg) (hL : L.length ≤ 4000000000) (hn : Ev (fun k => selvagelaw10_HunksAround.l1 k l 0 S A B c) true) (d : Nat) : ∀ i : Nat, i + d = L.length → Ev (fun k => selvagelaw10_HunksAround.l0 k l L L (i : Int) S A B c) true := by
  induction d with
  | zero =>
    intro i h
    exact Ev.step (fun k => by rw [selvagelaw10_HunksAround.l0, if_neg (by omega)]) hn
  | succ d ih =>
    intro i h
    have w1 : wrap64 ((i : Int) + 1) = ((i + 1 : Nat) : Int) := w_add i 1 (by omega)
    exact Ev.step (fun k => by rw [selvagelaw10_HunksAround.l0, if_pos (by omega), if_pos (by omega), if_pos (by omega), if_neg (by simp), w1]) (ih (i + 1) (by omega))
theorem around_law (S : List Chg) (A B : List ByteArray) (c : Int) (hS : S.length + 1 ≤ 1048576) (hA : A.length + B.length ≤ 1048576) (hsA : ∀ s ∈ A, s.size ≤ 1048576) (hsB : ∀ s ∈ B, s.size ≤ 1048576) :
    Ev (fun k => selvagelaw10_HunksAround.f k S A B c) true := by
  have e1 : selvagelaw10_changes.f S = some S := by unfold selvagelaw10_changes.f; rw [if_pos (by simp; omega), List.nil_append]
  have e2 : selvagelaw10_texts.f A = some A := by unfold selvagelaw10_texts.f; rw [if_pos (by simp; omega), List.nil_append]
  have e3 : selvagelaw10_texts.f B = some B := by unfold selvagelaw10_texts.f; rw [if_pos (by simp; omega), List.nil_append]
  have tA : ∀ s ∈ A, s.size ≤ 4000000000 := fun s hs => by have := hsA s hs; omega
  have tB : ∀ s ∈ B, s.size ≤ 4000000000 := fun s hs => by have := hsB s hs; omega
  have hn : (none : Option Int).isNone = true := rfl
  refine Ev.same (fun k => by unfold selvagelaw10_HunksAround.f; rw [e1, Option.bind_some, e2, Option.bind_some, e3, Option.bind_some]) ?_
  rcases build_is S A B c (by omega) (by omega) (by omega) tA tB with ⟨_, e, h1⟩ | ⟨L, hb, c0, c1, h1⟩
  · refine Ev.bind h1 (Ev.same (fun k => ?_) (Ev.bind ev_works (Ev.pure _)))
    rw [if_neg (by simp), if_pos (by simp)]
  · obtain ⟨hch, hsc, hln⟩ := bt_script hb c c0
    have n1 := grs_count c (A.length : Int) L
    obtain ⟨v1, v2, v3, v4⟩ := normS_valid hb.norm
    have hap := bt_apart hb
    obtain ⟨ps, hps⟩ : ∃ ps, ps = grs c 0 (A.length : Int) L := ⟨_, rfl⟩
    rw [← hps] at hch hsc h1 n1
    have hhs := ch_hs hA hsA hsB ps (by omega) hch
    have hor := order_at _ hhs
    rw [ch_orderS hb.va hb.vb hb.la hb.lb ps hch] at hor
    have hscr := p_script _ hhs (A.length : Int) (B.length : Int)
    rw [hsc] at hscr
    have hnrm := norm_at S (by omega) (A.length : Int) (B.length : Int) (by omega) (by omega)
    rw [hb.norm] at hnrm
    have hcnt := hhs.count
    have htw := twins_at (ps.map (hk A B)) (by omega) (fun h hh => by have := (hhs.all h hh).rows; omega)
    have hfew : c < (A.length : Int) ∨ ps.length < 2 := by
      by_cases q : 2 ≤ ps.length
      · rw [hps] at q; exact Or.inl (grs_two _ _ c c0 L v3 q)
      · exact Or.inr (by omega)
    have hbare : c = 0 → ∀ p ∈ ps, bare1 p := fun hc0 => by subst hc0; rw [hps]; exact grs_bare _ _ L v3 hap
    have hloop := ar_loop hb hA hsA hsB c c0 ps hps hch (by omega) hfew hbare ps [] rfl
    have hj : Ev (fun k => selvagelaw10_HunksAround.j0 k (ps.map (hk A B)) L L false S A B c) true :=
      Ev.step (fun k => by rw [selvagelaw10_HunksAround.j0, if_neg (by simp)]; rfl) (ar_scripts _ S A B c L (by omega) hloop L.length 0 (by omega))
    refine Ev.bind h1 (Ev.same (fun k => if_pos hn) ?_)
    refine Ev.bind htw ?_
    refine Ev.bind hscr ?_
    refine Ev.same (fun k => Option.bind_some _ _) ?_
    refine Ev.bind hnrm (Ev.same (fun k => by rw [if_pos hn, if_pos hn, if_pos rfl]) ?_)
    exact Ev.bind hor (Ev.same (fun k => if_pos hn) hj)
theorem HunksAround : ∀ (a0 : S25), Ext.ok25 a0 → Ext.wt25 a0 ≤ 1048576 → ∃ k, selvagelaw10_HunksAround.f k a0.f0 a0.f1 a0.f2 a0.f3 = some true := by
  intro a0 _ hb
  unfold Ext.wt25 at hb
  have s0 : a0.f0.length ≤ (a0.f0.map Ext.wt53).sum := by
    have := len_sum Ext.wt53 1 (fun x => by unfold Ext.wt53; omega) a0.f0
    omega
  have s1 := len_sum (fun z : ByteArray => z.size + 1) 1 (fun x => by omega) a0.f1
  have s2 := len_sum (fun z : ByteArray => z.size + 1) 1 (fun x => by omega) a0.f2
  have t1 : ∀ s ∈ a0.f1, s.size ≤ 1048576 := fun s hs => by
    have := mem_sum (fun z : ByteArray => z.size + 1) a0.f1 s hs
    omega
  have t2 : ∀ s ∈ a0.f2, s.size ≤ 1048576 := fun s hs => by
    have := mem_sum (fun z : ByteArray => z.size + 1) a0.f2 s hs
    omega
  exact Ev.rounds (around_law a0.f0 a0.f1 a0.f2 a0.f3 (by omega) (by omega) t1 t2)
end Go.Proofs.YtecjoofjiockkaaDoor.Pure
