/-
  journal, in plain Lean: what Encode answers, of the program and of the reference.
-/
import Derived.Test.YtfempodohmhhlaaDoorPureP
namespace Go.Proofs.YtfempodohmhhlaaDoor.Pure
open Go.RowKit Go.Proofs.YtfempodohmhhlaaDoor.Pp Go.Proofs.YtfempodohmhhlaaDoor.Ext Go.Proofs.YtfempodohmhhlaaDoorW.PrintWords Go.Proofs.YtfempodohmhhlaaDoorW.PrintLast
def okPath (p : ByteArray) : Bool := !(p.toList == ([] : List UInt8)) && (parts p).2.isNone
theorem named_at (p : ByteArray) {k : Nat} (hk : p.size + 2 ≤ k) : journal_named.f k p = some (okPath p) := by
  unfold journal_named.f okPath
  rw [parts_at p hk]
  simp only [Option.bind_some]
  by_cases h : p.toList = ([] : List UInt8)
  · rw [if_pos h]; simp [h]
  · rw [if_neg h]
    have h' : (p.toList == ([] : List UInt8)) = false := beq_eq_false_iff_ne.mpr h
    rw [h']
    cases hp : (parts p).2 with
    | none => simp
    | some c => simp
theorem refpath_at (p : ByteArray) {k : Nat} (hk : 2 * p.size + 5 ≤ k) : selvageref27_path.f k p = some (okPath p) := by
  unfold selvageref27_path.f okPath
  rw [refparts_at p hk]
  simp only [Option.bind_some]
  have hz : errNum (parts p).2 = 0 ↔ (parts p).2.isNone = true := by
    unfold parts partsOf
    split
    · simp [errNum]
    · split
      · simp [errNum]
      · split
        · split <;> simp [errNum]
        · simp [errNum]
  by_cases h : (parts p).2.isNone = true
  · rw [if_pos (hz.mpr h), h, Bool.and_true]; rfl
  · rw [if_neg (fun e => h (hz.mp e))]
    simp only [Bool.not_eq_true] at h
    rw [h, Bool.and_false]
def stepOk (s : S32) : Bool :=
  if s.f0 = 1 then okPath s.f1 && okPath s.f2 && !(s.f2.toList == s.f1.toList)
  else if s.f0 = 2 ∨ s.f0 = 3 then okPath s.f1 && (s.f2.toList == ([] : List UInt8)) else false
theorem stepOk_eq (a : Int) (p q : ByteArray) : stepOk ⟨a, p, q⟩ = (if a = 1 then okPath p && okPath q && !(q.toList == p.toList) else if a = 2 ∨ a = 3 then okPath p && (q.toList == ([] : List UInt8)) else false) := rfl
theorem valid_at (a : Int) (p q : ByteArray) {k : Nat} (hk : p.size + q.size + 3 ≤ k) : journal_Valid.f k a p q = some (if stepOk ⟨a, p, q⟩ = true then none else some 1) := by
  obtain ⟨k, rfl⟩ : ∃ m, k = m + 1 := ⟨k - 1, by omega⟩
  unfold journal_Valid.f
  rw [stepOk_eq]
  rw [named_at p (by omega)]
  simp only [Option.bind_some]
  by_cases h1 : a = 1
  · rw [if_pos h1, if_pos h1]
    cases okPath p with
    | false => simp
    | true =>
      rw [if_pos rfl, named_at q (by omega)]
      simp only [Option.bind_some]
      cases okPath q with
      | false => simp
      | true =>
        rw [if_pos rfl]
        by_cases h : q.toList = p.toList
        · rw [if_pos h]; simp [h]
        · rw [if_neg h]; simp [h]
  · rw [if_neg h1, if_neg h1]
    by_cases h2 : a = 2
    · rw [if_pos h2, if_pos (show a = 2 ∨ a = 3 from Or.inl h2)]
      have e : (a == 2) = true := beq_iff_eq.mpr h2
      rw [e]
      simp only [journal_Valid.j0, if_true]
      cases okPath p with
      | false => simp
      | true =>
        rw [if_pos rfl]
        by_cases h : q.toList = ([] : List UInt8)
        · rw [if_pos h]; simp [h]
        · rw [if_neg h]; simp [h]
    · rw [if_neg h2]
      by_cases h3 : a = 3
      · rw [if_pos (show a = 2 ∨ a = 3 from Or.inr h3)]
        have e : (a == 3) = true := beq_iff_eq.mpr h3
        rw [e]
        simp only [journal_Valid.j0, if_true]
        cases okPath p with
        | false => simp
        | true =>
          rw [if_pos rfl]
          by_cases h : q.toList = ([] : List UInt8)
          · rw [if_pos h]; simp [h]
          · rw [if_neg h]; simp [h]
      · rw [if_neg (show ¬ (a = 2 ∨ a = 3) by rintro (h | h) <;> contradiction)]
        have e : (a == 3) = false := beq_eq_false_iff_ne.mpr h3
        rw [e]
        simp [journal_Valid.j0]
theorem refvalid_at (a : Int) (p q : ByteArray) {k : Nat} (hk : 2 * p.size + 2 * q.size + 6 ≤ k) : selvageref27_Valid.f k a p q = some (if stepOk ⟨a, p, q⟩ = true then 0 else 1) := by
  obtain ⟨k, rfl⟩ : ∃ m, k = m + 1 := ⟨k - 1, by omega⟩
  unfold selvageref27_Valid.f
  rw [stepOk_eq]
  by_cases h1 : a = 1
  · rw [if_pos h1, if_pos h1, refpath_at p (by omega)]
    simp only [Option.bind_some]
    cases okPath p with
    | false => simp
    | true =>
      rw [if_pos rfl, refpath_at q (by omega)]
      simp only [Option.bind_some]
      cases okPath q with
      | false => simp
      | true =>
        rw [if_pos rfl]
        by_cases h : p.toList = q.toList
        · rw [if_pos h]; simp [h]
        · rw [if_neg h]
          have h' : ¬ q.toList = p.toList := fun e => h e.symm
          simp [h']
  · rw [if_neg h1, if_neg h1]
    have J : ∀ b : Bool, selvageref27_Valid.j0 (k + 1) b a p q = some (if (b && (okPath p && (q.toList == ([] : List UInt8)))) = true then 0 else 1) := by
      intro b
      simp only [selvageref27_Valid.j0]
      cases b with
      | false => simp
      | true =>
        rw [if_pos rfl, refpath_at p (by omega)]
        simp only [Option.bind_some]
        cases okPath p with
        | false => simp
        | true =>
          rw [if_pos rfl]
          by_cases h : q.toList = ([] : List UInt8)
          · rw [if_pos h]; simp [h]
          · rw [if_neg h]; simp [h]
    rw [J, J]
    by_cases h2 : a = 2
    · rw [if_pos h2, if_pos (show a = 2 ∨ a = 3 from Or.inl h2), beq_iff_eq.mpr h2, Bool.true_and]
    · rw [if_neg h2]
      by_cases h3 : a = 3
      · rw [if_pos (show a = 2 ∨ a = 3 from Or.inr h3), beq_iff_eq.mpr h3, Bool.true_and]
      · rw [if_neg (show ¬ (a = 2 ∨ a = 3) by rintro (h | h) <;> contradiction), beq_eq_false_iff_ne.mpr h3]
        simp
def wRen : ByteArray := ⟨#[114, 101, 110, 97, 109, 101, 32]⟩
def wRem : ByteArray := ⟨#[114, 101, 109, 111, 118, 101, 32]⟩
def wPru : ByteArray := ⟨#[112, 114, 117, 110, 101, 32]⟩
def bTab : ByteArray := ⟨#[9]⟩
def bNl : ByteArray := ⟨#[10]⟩
def lineB (s : S32) : ByteArray :=
  if s.f0 = 1 then ((wRen ++ shown s.f1) ++ bTab) ++ shown s.f2 else if s.f0 = 2 then wRem ++ shown s.f1 else wPru ++ shown s.f1
def lineOf (s : S32) : ByteArray := lineB s ++ bNl
def wtS (s : S32) : Nat := s.f1.size + s.f2.size
theorem lineB_size (s : S32) : (lineB s).size ≤ 4 * wtS s + 12 := by
  have h1 := shown_size s.f1
  have h2 := shown_size s.f2
  have e1 : wRen.size = 7 := rfl
  have e2 : wRem.size = 7 := rfl
  have e3 : wPru.size = 6 := rfl
  have e4 : bTab.size = 1 := rfl
  unfold lineB wtS
  split
  · simp only [ByteArray.size_append]; omega
  · split
    · simp only [ByteArray.size_append]; omega
    · simp only [ByteArray.size_append]; omega
theorem lineOf_size (s : S32) : 1 ≤ (lineOf s).size ∧ (lineOf s).size ≤ 4 * wtS s + 13 := by
  have h := lineB_size s
  have e : bNl.size = 1 := rfl
  unfold lineOf
  rw [ByteArray.size_append]
  omega
theorem app_assoc (a b c : ByteArray) : (a ++ b) ++ c = a ++ (b ++ c) := by
  apply ba_ext
  simp only [app_data, List.append_assoc]
theorem nil_app (s : ByteArray) : (⟨#[]⟩ : ByteArray) ++ s = s := by
  apply ba_ext
  rw [app_data]; simp
theorem encLine_at (s : S32) (hs : wtS s ≤ 1099511627000) {k : Nat} (hk : wtS s < k) (acc : ByteArray) :
    ∃ x, encLine k s = some x ∧ acc ++ x.1 ++ x.2 ++ (⟨#[10]⟩ : ByteArray) = acc ++ lineOf s := by
  unfold wtS at hs hk
  have h1 := shown_size s.f1
  have h2 := shown_size s.f2
  have hw : ∃ wd, journal_word.f s.f0 = some wd ∧ wd = (if s.f0 = 1 then wRen else if s.f0 = 2 then wRem else wPru) := by
    unfold journal_word.f
    split
    · exact ⟨_, rfl, rfl⟩
    · split
      · exact ⟨_, rfl, rfl⟩
      · exact ⟨_, rfl, rfl⟩
  obtain ⟨wd, hw, hwd⟩ := hw
  have hws : wd.size ≤ 7 := by
    rw [hwd]
    split
    · decide
    · split
      · decide
      · decide
  unfold encLine
  rw [hw]
  simp only [Option.bind_some]
  rw [quote_at s.f1 (by omega) (by omega)]
  simp only [Option.bind_some]
  rw [if_pos (by omega)]
  by_cases hf : s.f0 = 1
  · rw [if_pos hf, quote_at s.f2 (by omega) (by omega)]
    simp only [Option.bind_some]
    rw [if_pos (by omega)]
    refine ⟨_, rfl, ?_⟩
    rw [if_pos hf] at hwd
    subst hwd
    unfold lineOf lineB
    rw [if_pos hf]
    simp only [app_assoc]
    rfl
  · rw [if_neg hf]
    refine ⟨_, rfl, ?_⟩
    rw [if_neg hf] at hwd
    subst hwd
    unfold lineOf lineB
    rw [if_neg hf]
    simp only [app_assoc, nil_app]
    split <;> simp only [app_assoc] <;> rfl
theorem refline_at (s : S32) (hs : wtS s ≤ 1099511627000) {k : Nat} (hk : wtS s + 13 ≤ k) : selvageref27_line.f k s.f0 s.f1 s.f2 = some (lineOf s) := by
  unfold wtS at hs hk
  have h1 := shown_size s.f1
  have h2 := shown_size s.f2
  unfold selvageref27_line.f lineOf lineB
  rw [refquote_at s.f1 (by omega) (by omega)]
  simp only [Option.bind_some]
  by_cases hf : s.f0 = 1
  · rw [if_pos hf, if_pos hf, if_pos (by omega), if_pos (by omega), refquote_at s.f2 (by omega) (by omega)]
    simp only [Option.bind_some]
    rw [if_pos (by omega), if_pos (by omega)]
    rfl
  · rw [if_neg hf, if_neg hf]
    by_cases hf2 : s.f0 = 2
    · rw [if_pos hf2, if_pos hf2, if_pos (by omega), if_pos (by omega)]
      rfl
    · rw [if_neg hf2, if_neg hf2, if_pos (by omega), if_pos (by omega)]
      rfl
def bodyOf : List S32 → ByteArray
  | [] => ⟨#[]⟩
  | s :: l => lineOf s ++ bodyOf l
def room : List S32 → Nat
  | [] => 0
  | s :: l => 4 * wtS s + 13 + room l
theorem body_size (l : List S32) : (bodyOf l).size ≤ room l := by
  induction l with
  | nil => exact Nat.le_refl 0
  | cons s l ih =>
    have := lineOf_size s
    simp only [bodyOf, room, ByteArray.size_append]
    omega
theorem room_mem (l : List S32) : ∀ s ∈ l, 4 * wtS s + 13 ≤ room l := by
  induction l with
  | nil => intro s h; simp at h
  | cons t l ih =>
    intro s h
    simp only [room]
    rcases List.mem_cons.mp h with rfl | h
    · omega
    · have := ih s h; omega
theorem room_length (l : List S32) : 13 * l.length ≤ room l := by
  induction l with
  | nil => simp [room]
  | cons t l ih => simp only [room, List.length_cons]; omega
def encOut (l : List S32) : ByteArray × Option Int := if l.all stepOk = true then (encHead ++ (bodyOf l ++ encTail), none) else (⟨#[]⟩, some 1)
def encRes : Bool → ByteArray → ByteArray × Option Int
  | true, t => (t, none)
  | false, _ => (⟨#[]⟩, some 1)
theorem encOut_res (l : List S32) : encOut l = encRes (l.all stepOk) (encHead ++ (bodyOf l ++ encTail)) := by
  unfold encOut
  cases l.all stepOk <;> rfl
theorem encFrom_at (k : Nat) : ∀ (l : List S32) (acc : ByteArray), acc.size + room l ≤ 4000000001000 → room l ≤ k →
    encFrom k l acc = some (encRes (l.all stepOk) (acc ++ (bodyOf l ++ encTail)))
  | [], acc, ha, _ => by
    simp only [room] at ha
    unfold encFrom
    rw [if_pos (by omega)]
    simp [bodyOf, nil_app, encRes]
  | s :: l, acc, ha, hk => by
    have hl := lineOf_size s
    simp only [room] at ha hk
    unfold encFrom
    rw [List.all_cons, valid_at s.f0 s.f1 s.f2 (by unfold wtS at hk; omega), show stepOk ⟨s.f0, s.f1, s.f2⟩ = stepOk s from rfl]
    simp only [Option.bind_some]
    cases hv : stepOk s with
    | false =>
      rw [if_neg (by decide), if_neg (by decide), Bool.false_and]
      rfl
    | true =>
      rw [if_pos rfl, if_pos none_isNone]
      obtain ⟨x, hx, hxx⟩ := encLine_at s (by omega) (k := k) (by omega) acc
      rw [hx]
      simp only [Option.bind_some, Bool.true_and]
      rw [if_pos (by omega), hxx, encFrom_at k l _ (by rw [ByteArray.size_append]; omega) (by omega), app_assoc]
      simp only [bodyOf, app_assoc]
theorem enc_at (l : List S32) (hl : room l ≤ 4000000000000) {k : Nat} (hk : room l ≤ k) : journal_Encode.f k l = some (encOut l) := by
  have h := room_length l
  unfold journal_Encode.f
  rw [if_pos (by omega), encFrom_at k l encHead (by rw [show encHead.size = 18 from rfl]; omega) hk, encOut_res]
def refRes : Bool → ByteArray → ByteArray × Int
  | true, t => (t, 0)
  | false, _ => (⟨#[]⟩, 1)
theorem refEncFrom_at (k : Nat) : ∀ (l : List S32) (acc : ByteArray), acc.size + room l ≤ 4000000001000 → room l ≤ k →
    refEncFrom k l acc = some (refRes (l.all stepOk) (acc ++ (bodyOf l ++ encTail)))
  | [], acc, ha, _ => by
    simp only [room] at ha
    unfold refEncFrom
    rw [if_pos (by omega), bodyOf, nil_app]
    rfl
  | s :: l, acc, ha, hk => by
    have hl := lineOf_size s
    simp only [room] at ha hk
    unfold refEncFrom
    rw [List.all_cons, refvalid_at s.f0 s.f1 s.f2 (by unfold wtS at hk; omega), show stepOk ⟨s.f0, s.f1, s.f2⟩ = stepOk s from rfl]
    simp only [Option.bind_some]
    cases hv : stepOk s with
    | false =>
      rw [show (if false = true then (0 : Int) else 1) = 1 from rfl, if_neg (show ¬ (1 : Int) = 0 by decide), Bool.false_and]
      rfl
    | true =>
      rw [if_pos rfl, if_pos rfl, refline_at s (by omega) (by omega)]
      simp only [Option.bind_some, Bool.true_and]
      rw [if_pos ⟨by omega, by omega, by omega⟩, refEncFrom_at k l _ (by rw [ByteArray.size_append]; omega) (by omega), app_assoc]
      simp only [bodyOf, app_assoc]
theorem refenc_at (l : List S32) (hl : room l ≤ 4000000000000) {k : Nat} (hk : room l ≤ k) : selvageref27_Encode.f k l = some ((encOut l).1, errNum (encOut l).2) := by
  have h := room_length l
  unfold selvageref27_Encode.f
  rw [if_pos (by omega), refEncFrom_at k l refHead (by rw [show refHead.size = 18 from rfl]; omega) hk, encOut_res]
  cases l.all stepOk <;> rfl
end Go.Proofs.YtfempodohmhhlaaDoor.Pure
