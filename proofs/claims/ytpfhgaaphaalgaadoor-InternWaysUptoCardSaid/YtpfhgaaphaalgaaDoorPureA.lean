/-
  What a line counts as, in plain Lean: the program's and the document's keys are the same.
-/
import Derived.Test.YtpfhgaaphaalgaaDoorEPure
import Derived.Test.YtpfhgaaphaalgaaDoorPp3
import Derived.Lib.SlTrimSet
namespace Go.Proofs.YtpfhgaaphaalgaaDoor.Pure
open Go.RowKit Go.Proofs.YtpfhgaaphaalgaaDoor.Pp Go.Proofs.YtpfhgaaphaalgaaDoor.Ext Go.Proofs.YtpfhgaaphaalgaaDoorW.PrintWords Go.Proofs.YtpfhgaaphaalgaaDoorW.PrintLast Go.Proofs.YtpfhgaaphaalgaaDoorW.PrintMore
theorem Ev.pure {α : Type} (v : α) : Ev (fun _ => some v) v := ⟨0, fun _ _ => rfl⟩
theorem Ev.same {α : Type} {F G : Nat → Option α} {v : α} (h : ∀ k, F k = G k) (hg : Ev G v) : Ev F v := Ev.congr h hg
theorem Ev.get {α : Type} {F : Nat → Option α} {v : α} (h : Ev F v) : ∃ k, F k = some v := Ev.rounds h
def isB (b : UInt8) : Bool := ([9, 11, 12, 13, 32] : List UInt8).contains b
def nB (b : UInt8) : Bool := !isB b
theorem isB_int (b : UInt8) : isB b = true ↔ (b.toNat : Int) = 9 ∨ (b.toNat : Int) = 11 ∨ (b.toNat : Int) = 12 ∨ (b.toNat : Int) = 13 ∨ (b.toNat : Int) = 32 := by
  have e : ∀ c : UInt8, b = c ↔ b.toNat = c.toNat := fun c => ⟨fun h => by rw [h], fun h => UInt8.toNat_inj.mp h⟩
  unfold isB
  simp only [List.contains_cons, List.contains_nil, Bool.or_false, Bool.or_eq_true, beq_iff_eq, e]
  have e1 : (9 : UInt8).toNat = 9 := rfl
  have e2 : (11 : UInt8).toNat = 11 := rfl
  have e3 : (12 : UInt8).toNat = 12 := rfl
  have e4 : (13 : UInt8).toNat = 13 := rfl
  have e5 : (32 : UInt8).toNat = 32 := rfl
  rw [e1, e2, e3, e4, e5]
  omega
theorem ix_all : ∀ n : Fin 256, decide (Lib.indexByte [9, 11, 12, 13, 32] (UInt8.ofNat n.val) < 0) = !(isB (UInt8.ofNat n.val)) := by decide +kernel
theorem ix_at (b : UInt8) : strings_IndexByte.f (⟨#[9, 11, 12, 13, 32]⟩ : ByteArray) (b.toNat : Int) = some (Lib.indexByte [9, 11, 12, 13, 32] b) ∧ (Lib.indexByte [9, 11, 12, 13, 32] b < 0 ↔ isB b = false) := by
  have hb : UInt8.ofNat b.toNat = b := by simp
  constructor
  · unfold strings_IndexByte.f
    rw [Int.toNat_natCast, hb]
  · have := ix_all ⟨b.toNat, b.toNat_lt⟩
    simp only [hb] at this
    constructor
    · intro h; rw [decide_eq_true h] at this; cases h2 : isB b <;> rw [h2] at this <;> first | rfl | cases this
    · intro h; rw [h] at this; exact of_decide_eq_true this
def nums (l : List UInt8) : List Int := l.map fun b => (b.toNat : Int)
theorem strOf (l : List UInt8) : strOfNums (nums l) = ⟨l.toArray⟩ := by
  have := nums_bytes ⟨l.toArray⟩
  simpa [bytesOf, nums] using this
theorem nums_len (l : List UInt8) : (nums l).length = l.length := List.length_map _
theorem nums_snoc (l : List UInt8) (b : UInt8) : nums l ++ [(b.toNat : Int)] = nums (l ++ [b]) := by unfold nums; rw [List.map_append]; rfl
theorem data_len (s : ByteArray) : s.data.toList.length = s.size := by rw [Array.length_toList]; rfl
theorem mk_data (s : ByteArray) : (⟨s.data.toList.toArray⟩ : ByteArray) = s := ba_ext (by simp)
theorem drop_by (s : ByteArray) (i : Nat) (h : i < s.size) : s.data.toList.drop i = s.data.toList.getD i 0 :: s.data.toList.drop (i + 1) := by
  have hl : i < s.data.toList.length := by rw [data_len]; exact h
  rw [List.getD_eq_getElem?_getD, List.getElem?_eq_getElem hl]
  exact List.drop_eq_getElem_cons hl
theorem without_loop (s : ByteArray) (hs : s.size ≤ 4000000000) (d : Nat) : ∀ (i : Nat) (acc : List UInt8), i + d = s.size → acc.length ≤ i →
    Ev (fun k => intern_without.l0 k s (nums acc) (s.size : Int) (i : Int)) ⟨(acc ++ (s.data.toList.drop i).filter nB).toArray⟩ := by
  induction d with
  | zero =>
    intro i acc h ha
    rw [List.drop_of_length_le (by rw [data_len]; omega), List.filter_nil, List.append_nil, ← strOf]
    exact Ev.step (f := fun _ => some (strOfNums (nums acc))) (fun k => by rw [intern_without.l0, if_neg (by omega)]) (Ev.pure _)
  | succ d ih =>
    intro i acc h ha
    have w1 : wrap64 ((i : Int) + 1) = ((i + 1 : Nat) : Int) := w_add i 1 (by omega)
    rw [drop_by s i (by omega)]
    obtain ⟨b, hb⟩ : ∃ b, b = s.data.toList.getD i 0 := ⟨_, rfl⟩
    have hbt : bt s (i : Int) = (b.toNat : Int) := by rw [bt_list, hb]
    rw [← hb]
    obtain ⟨x1, x2⟩ := ix_at b
    cases hB : isB b with
    | true =>
      rw [List.filter_cons, if_neg (by simp [nB, hB])]
      have hn : ¬ Lib.indexByte [9, 11, 12, 13, 32] b < 0 := fun h => by rw [x2.mp h] at hB; cases hB
      refine Ev.step (fun k => ?_) (ih (i + 1) acc (by omega) (by omega))
      rw [intern_without.l0, hbt, x1, w1, Option.bind_some, if_pos (by omega), if_pos (by omega), if_pos (by omega), if_neg hn]
    | false =>
      rw [List.filter_cons, if_pos (by simp [nB, hB]), show acc ++ b :: (s.data.toList.drop (i + 1)).filter nB = (acc ++ [b]) ++ (s.data.toList.drop (i + 1)).filter nB by simp]
      refine Ev.step (fun k => ?_) (ih (i + 1) (acc ++ [b]) (by omega) (by rw [List.length_append, List.length_singleton]; omega))
      rw [intern_without.l0, hbt, x1, w1, Option.bind_some, if_pos (by omega), if_pos (by omega), if_pos (by omega), if_pos (x2.mpr hB), nums_len, if_pos (by omega), nums_snoc]
theorem without_at (s : ByteArray) (hs : s.size ≤ 4000000000) : Ev (fun k => intern_without.f k s) ⟨(s.data.toList.filter nB).toArray⟩ := by
  have := without_loop s hs s.size 0 [] (by omega) (by simp)
  rw [List.drop_zero, List.nil_append] at this
  exact this
def amt : Bool → List UInt8 → List UInt8
  | _, [] => []
  | run, b :: t => if isB b = true then amt true t else if run = true then 32 :: b :: amt false t else b :: amt false t
theorem amt_len : ∀ (l : List UInt8) (run : Bool), (amt run l).length ≤ l.length + (if run = true then 1 else 0)
  | [], run => by simp [amt]
  | b :: t, run => by
    have h1 := amt_len t true
    have h2 := amt_len t false
    simp at h1 h2
    unfold amt
    split
    · simp; omega
    · cases run <;> simp <;> omega
theorem amount_loop (s : ByteArray) (hs : s.size ≤ 4000000000) (d : Nat) : ∀ (i : Nat) (run : Bool) (acc : List UInt8), i + d = s.size → acc.length + (if run = true then 1 else 0) ≤ i →
    Ev (fun k => intern_amount.l0 k s (nums acc) run (s.size : Int) (i : Int)) ⟨(acc ++ amt run (s.data.toList.drop i)).toArray⟩ := by
  induction d with
  | zero =>
    intro i run acc h ha
    rw [List.drop_of_length_le (by rw [data_len]; omega), amt, List.append_nil, ← strOf]
    exact Ev.step (f := fun _ => some (strOfNums (nums acc))) (fun k => by rw [intern_amount.l0, if_neg (by omega)]) (Ev.pure _)
  | succ d ih =>
    intro i run acc h ha
    have w1 : wrap64 ((i : Int) + 1) = ((i + 1 : Nat) : Int) := w_add i 1 (by omega)
    rw [drop_by s i (by omega)]
    obtain ⟨b, hb⟩ : ∃ b, b = s.data.toList.getD i 0 := ⟨_, rfl⟩
    have hbt : bt s (i : Int) = (b.toNat : Int) := by rw [bt_list, hb]
    rw [← hb]
    obtain ⟨x1, x2⟩ := ix_at b
    cases hB : isB b with
    | true =>
      rw [amt, if_pos hB]
      have hn : Lib.indexByte [9, 11, 12, 13, 32] b ≥ 0 := by
        by_cases h : Lib.indexByte [9, 11, 12, 13, 32] b < 0
        · rw [x2.mp h] at hB; cases hB
        · omega
      refine Ev.step (fun k => ?_) (ih (i + 1) true acc (by omega) (by simp; split at ha <;> omega))
      rw [intern_amount.l0, hbt, x1, w1, Option.bind_some, if_pos (by omega), if_pos (by omega), if_pos (by omega), if_pos hn]
    | false =>
      have hn : ¬ Lib.indexByte [9, 11, 12, 13, 32] b ≥ 0 := by have := x2.mpr hB; omega
      rw [amt, if_neg (by rw [hB]; simp)]
      cases run with
      | true =>
        simp at ha
        rw [if_pos rfl, show acc ++ 32 :: b :: amt false (s.data.toList.drop (i + 1)) = (acc ++ [32] ++ [b]) ++ amt false (s.data.toList.drop (i + 1)) by simp]
        refine Ev.step (fun k => ?_) (ih (i + 1) false (acc ++ [32] ++ [b]) (by omega) (by simp; omega))
        have e32 : nums acc ++ [(32 : Int)] = nums (acc ++ [32]) := nums_snoc acc 32
        rw [intern_amount.l0, hbt, x1, w1, Option.bind_some, if_pos (by omega), if_pos (by omega), if_pos (by omega), if_neg hn, if_pos rfl, nums_len, if_pos (by omega), Option.bind_some, e32, nums_len, List.length_append, List.length_singleton, if_pos (by omega), nums_snoc]
      | false =>
        simp at ha
        rw [if_neg (by simp), show acc ++ b :: amt false (s.data.toList.drop (i + 1)) = (acc ++ [b]) ++ amt false (s.data.toList.drop (i + 1)) by simp]
        refine Ev.step (fun k => ?_) (ih (i + 1) false (acc ++ [b]) (by omega) (by simp; omega))
        rw [intern_amount.l0, hbt, x1, w1, Option.bind_some, if_pos (by omega), if_pos (by omega), if_pos (by omega), if_neg hn, if_neg (by simp), nums_len, if_pos (by omega), nums_snoc]
theorem amount_at (s : ByteArray) (hs : s.size ≤ 4000000000) : Ev (fun k => intern_amount.f k s) ⟨(amt false s.data.toList).toArray⟩ := by
  have := amount_loop s hs s.size 0 false [] (by omega) (by simp)
  rw [List.drop_zero, List.nil_append] at this
  exact this
theorem spc (b : UInt8) : selvageref05_Space.f (b.toNat : Int) = some (isB b) := by
  unfold selvageref05_Space.f
  have hb := isB_int b
  generalize (b.toNat : Int) = a at hb ⊢
  have hB : isB b = decide (a = 9 ∨ a = 11 ∨ a = 12 ∨ a = 13 ∨ a = 32) := by
    cases h : isB b with
    | true => exact (decide_eq_true (hb.mp h)).symm
    | false => exact (decide_eq_false (fun x => by rw [hb.mpr x] at h; cases h)).symm
  rw [hB]
  by_cases h1 : a = 9
  · rw [if_pos h1, decide_eq_true (Or.inl h1)]
  · rw [if_neg h1]
    by_cases h2 : a = 11
    · rw [if_pos h2, decide_eq_true (by omega)]
    · rw [if_neg h2]
      by_cases h3 : a = 12
      · rw [if_pos h3, decide_eq_true (by omega)]
      · rw [if_neg h3]
        by_cases h4 : a = 13
        · rw [if_pos h4, decide_eq_true (by omega)]
        · rw [if_neg h4]
          by_cases h5 : a = 32
          · rw [decide_eq_true (by omega), h5]; rfl
          · rw [decide_eq_false (by omega), beq_eq_false_iff_ne.mpr h5]
def runsT : Bool → List UInt8 → List UInt8
  | _, [] => []
  | prev, b :: t => if isB b = true then (if prev = true then runsT true t else 32 :: runsT true t) else b :: runsT false t
theorem runs_no (s : ByteArray) (hs : s.size ≤ 4000000000) (d : Nat) : ∀ (i : Nat) (acc : List UInt8), i + d = s.size → acc.length ≤ i →
    Ev (fun k => selvageref05_runs.l0 k s false (nums acc) (i : Int)) ⟨(acc ++ (s.data.toList.drop i).filter nB).toArray⟩ := by
  induction d with
  | zero =>
    intro i acc h ha
    rw [List.drop_of_length_le (by rw [data_len]; omega), List.filter_nil, List.append_nil, ← strOf]
    exact Ev.step (f := fun _ => some (strOfNums (nums acc))) (fun k => by rw [selvageref05_runs.l0, if_neg (by omega)]) (Ev.pure _)
  | succ d ih =>
    intro i acc h ha
    have w1 : wrap64 ((i : Int) + 1) = ((i + 1 : Nat) : Int) := w_add i 1 (by omega)
    rw [drop_by s i (by omega)]
    obtain ⟨b, hb⟩ : ∃ b, b = s.data.toList.getD i 0 := ⟨_, rfl⟩
    have hbt : bt s (i : Int) = (b.toNat : Int) := by rw [bt_list, hb]
    rw [← hb]
    cases hB : isB b with
    | true =>
      rw [List.filter_cons, if_neg (by simp [nB, hB])]
      refine Ev.step (fun k => ?_) (ih (i + 1) acc (by omega) (by omega))
      rw [selvageref05_runs.l0, hbt, spc, hB, w1, Option.bind_some, if_pos (by omega), if_pos (by omega), if_pos rfl, if_neg (by simp)]
    | false =>
      rw [List.filter_cons, if_pos (by simp [nB, hB]), show acc ++ b :: (s.data.toList.drop (i + 1)).filter nB = (acc ++ [b]) ++ (s.data.toList.drop (i + 1)).filter nB by simp]
      refine Ev.step (fun k => ?_) (ih (i + 1) (acc ++ [b]) (by omega) (by rw [List.length_append, List.length_singleton]; omega))
      rw [selvageref05_runs.l0, hbt, spc, hB, w1, Option.bind_some, if_pos (by omega), if_pos (by omega), if_neg (by simp), nums_len, if_pos (by omega), nums_snoc]
def prevB (s : ByteArray) (i : Nat) : Bool := if i = 0 then false else isB (s.data.toList.getD (i - 1) 0)
theorem runs_yes (s : ByteArray) (hs : s.size ≤ 4000000000) (d : Nat) : ∀ (i : Nat) (acc : List UInt8), i + d = s.size → acc.length ≤ i →
    Ev (fun k => selvageref05_runs.l0 k s true (nums acc) (i : Int)) ⟨(acc ++ runsT (prevB s i) (s.data.toList.drop i)).toArray⟩ := by
  induction d with
  | zero =>
    intro i acc h ha
    rw [List.drop_of_length_le (by rw [data_len]; omega), runsT, List.append_nil, ← strOf]
    exact Ev.step (f := fun _ => some (strOfNums (nums acc))) (fun k => by rw [selvageref05_runs.l0, if_neg (by omega)]) (Ev.pure _)
  | succ d ih =>
    intro i acc h ha
    have w1 : wrap64 ((i : Int) + 1) = ((i + 1 : Nat) : Int) := w_add i 1 (by omega)
    have hp : prevB s (i + 1) = isB (s.data.toList.getD i 0) := by unfold prevB; rw [if_neg (by omega)]; simp
    rw [drop_by s i (by omega)]
    obtain ⟨b, hb⟩ : ∃ b, b = s.data.toList.getD i 0 := ⟨_, rfl⟩
    have hbt : bt s (i : Int) = (b.toNat : Int) := by rw [bt_list, hb]
    rw [← hb] at hp ⊢
    have e32 : nums acc ++ [(32 : Int)] = nums (acc ++ [32]) := nums_snoc acc 32
    cases hB : isB b with
    | true =>
      rw [hB] at hp
      rw [runsT, if_pos hB]
      have i1 := ih (i + 1) acc (by omega) (by omega)
      have i2 := ih (i + 1) (acc ++ [32]) (by omega) (by rw [List.length_append, List.length_singleton]; omega)
      rw [hp] at i1 i2
      by_cases h0 : i = 0
      · subst h0
        rw [show prevB s 0 = false from rfl, if_neg (by simp), show acc ++ 32 :: runsT true (s.data.toList.drop (0 + 1)) = (acc ++ [32]) ++ runsT true (s.data.toList.drop (0 + 1)) by simp]
        refine Ev.step (fun k => ?_) i2
        rw [selvageref05_runs.l0, hbt, spc, hB, w1, Option.bind_some, if_pos (by omega), if_pos (by omega), if_pos rfl, if_pos rfl, if_pos (by omega), nums_len, if_pos (by omega), e32]
      · obtain ⟨j, rfl⟩ : ∃ j, i = j + 1 := ⟨i - 1, by omega⟩
        have w2 : wrap64 (((j + 1 : Nat) : Int) - 1) = (j : Int) := by rw [w64' (by omega) (by omega)]; omega
        have hq : prevB s (j + 1) = isB (s.data.toList.getD j 0) := by unfold prevB; rw [if_neg (by omega)]; simp
        obtain ⟨c, hc⟩ : ∃ c, c = s.data.toList.getD j 0 := ⟨_, rfl⟩
        have hct : bt s (j : Int) = (c.toNat : Int) := by rw [bt_list, hc]
        rw [← hc] at hq
        rw [hq]
        cases hC : isB c with
        | true =>
          rw [if_pos rfl]
          refine Ev.step (fun k => ?_) i1
          rw [selvageref05_runs.l0, hbt, spc, hB, w1, w2, Option.bind_some, if_pos (by omega), if_pos (by omega), if_pos rfl, if_pos rfl, if_neg (by omega), if_pos (by omega), if_pos (by omega), hct, spc, hC, Option.bind_some, if_pos rfl]
        | false =>
          rw [if_neg (by simp), show acc ++ 32 :: runsT true (s.data.toList.drop (j + 1 + 1)) = (acc ++ [32]) ++ runsT true (s.data.toList.drop (j + 1 + 1)) by simp]
          refine Ev.step (fun k => ?_) i2
          rw [selvageref05_runs.l0, hbt, spc, hB, w1, w2, Option.bind_some, if_pos (by omega), if_pos (by omega), if_pos rfl, if_pos rfl, if_neg (by omega), if_pos (by omega), if_pos (by omega), hct, spc, hC, Option.bind_some, if_neg (by simp), nums_len, if_pos (by omega), e32]
    | false =>
      rw [hB] at hp
      rw [runsT, if_neg (by rw [hB]; simp), show acc ++ b :: runsT false (s.data.toList.drop (i + 1)) = (acc ++ [b]) ++ runsT false (s.data.toList.drop (i + 1)) by simp]
      have i1 := ih (i + 1) (acc ++ [b]) (by omega) (by rw [List.length_append, List.length_singleton]; omega)
      rw [hp] at i1
      refine Ev.step (fun k => ?_) i1
      rw [selvageref05_runs.l0, hbt, spc, hB, w1, Option.bind_some, if_pos (by omega), if_pos (by omega), if_neg (by simp), nums_len, if_pos (by omega), nums_snoc]
def tailL (l : List UInt8) : List UInt8 := (l.reverse.dropWhile isB).reverse
theorem tailL_cons (a : UInt8) (x : List UInt8) : tailL (a :: x) = if tailL x = [] then (if isB a = true then [] else [a]) else a :: tailL x := by
  unfold tailL
  rw [List.reverse_cons, List.dropWhile_append]
  cases h : x.reverse.dropWhile isB with
  | nil => simp; cases hA : isB a <;> simp [List.dropWhile, hA]
  | cons y z => simp
theorem tailL_len (l : List UInt8) : (tailL l).length ≤ l.length := by
  unfold tailL
  rw [List.length_reverse]
  have := (List.dropWhile_sublist isB (l := l.reverse)).length_le
  rw [List.length_reverse] at this
  exact this
theorem amt_runs : ∀ l : List UInt8, amt false l = tailL (runsT false l) ∧ amt true l = (if tailL (runsT true l) = [] then [] else 32 :: tailL (runsT true l))
  | [] => ⟨rfl, rfl⟩
  | b :: t => by
    obtain ⟨h1, h2⟩ := amt_runs t
    have e32 : isB 32 = true := rfl
    cases hB : isB b with
    | true =>
      simp only [amt, runsT, hB, if_pos]
      rw [if_neg (by simp), tailL_cons, e32, if_pos rfl]
      exact ⟨h2, h2⟩
    | false =>
      have hc : tailL (b :: runsT false t) = b :: tailL (runsT false t) := by
        rw [tailL_cons]
        split
        · rename_i h; rw [h, hB]; rfl
        · rfl
      simp only [amt, runsT, hB]
      simp only [Bool.false_eq_true, if_false, if_true]
      rw [hc, h1]
      exact ⟨rfl, by rw [if_neg (by simp)]⟩
theorem last_byte (s : ByteArray) (n : Nat) (h : s.size = n + 1) : ∃ b : UInt8, s.data.toList = s.data.toList.take n ++ [b] ∧ bt s (n : Int) = (b.toNat : Int) := by
  have hl : n < s.data.toList.length := by rw [data_len]; omega
  refine ⟨s.data.toList[n], ?_, ?_⟩
  · rw [← List.take_succ_eq_append_getElem hl, List.take_of_length_le (by rw [data_len]; omega)]
  · rw [bt_list, List.getD_eq_getElem?_getD, List.getElem?_eq_getElem hl]; rfl
theorem tail_at : ∀ (n : Nat) (s : ByteArray), s.size = n → n ≤ 4000000000 → Ev (fun k => selvageref05_tail.l0 k s) ⟨(tailL s.data.toList).toArray⟩
  | 0, s, h, _ => by
    have h0 : s.data.toList = [] := List.eq_nil_of_length_eq_zero (by rw [data_len]; exact h)
    have hs : (⟨(tailL s.data.toList).toArray⟩ : ByteArray) = s := ba_ext (by rw [h0]; rfl)
    rw [hs]
    exact Ev.step (f := fun _ => some s) (fun k => by rw [selvageref05_tail.l0, if_neg (by omega)]) (Ev.pure _)
  | n + 1, s, h, hn => by
    have w : wrap64 ((s.size : Int) - 1) = (n : Int) := by rw [w64' (by omega) (by omega)]; omega
    obtain ⟨b, hb, hv⟩ := last_byte s n h
    cases hB : isB b with
    | true =>
      have ih := tail_at n (s.extract 0 n) (by rw [ByteArray.size_extract]; omega) (by omega)
      have he : (s.extract 0 n).data.toList = s.data.toList.take n := by rw [Lib.extract_data, List.drop_zero, Nat.sub_zero]
      have ht : tailL s.data.toList = tailL (s.extract 0 n).data.toList := by
        rw [he]
        conv => lhs; rw [hb]
        unfold tailL
        rw [List.reverse_append]
        simp [hB]
      rw [ht]
      refine Ev.step (fun k => ?_) ih
      rw [selvageref05_tail.l0, w, hv, spc, hB, Option.bind_some, if_pos (by omega), if_pos (by omega), if_pos (by omega), if_pos rfl, if_pos (by omega), Int.toNat_natCast]
    | false =>
      have ht : tailL s.data.toList = s.data.toList := by
        conv => lhs; rw [hb]
        conv => rhs; rw [hb]
        unfold tailL
        rw [List.reverse_append]
        simp [hB]
      rw [ht, mk_data]
      refine Ev.step (f := fun _ => some s) (fun k => ?_) (Ev.pure _)
      rw [selvageref05_tail.l0, w, hv, spc, hB, Option.bind_some, if_pos (by omega), if_pos (by omega), if_pos (by omega), if_neg (by simp)]
end Go.Proofs.YtpfhgaaphaalgaaDoor.Pure
