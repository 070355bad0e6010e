/-
  SlideBlanks, in plain Lean: what is left of a script without changes of blank lines.
-/
import Derived.Test.YtmfanpibpmajnaaDoorPureF
import Derived.Lib.SlTrimSet
namespace Go.Proofs.YtmfanpibpmajnaaDoor.Pure
open Go.RowKit Go.Proofs.YtmfanpibpmajnaaDoor.Pp Go.Proofs.YtmfanpibpmajnaaDoor.Ext Go.Proofs.YtmfanpibpmajnaaDoorW.PrintWords Go.Proofs.YtmfanpibpmajnaaDoorW.PrintLast Go.Proofs.YtmfanpibpmajnaaDoorW.PrintMore
def isB (b : UInt8) : Bool := ([9, 11, 12, 13, 32] : List UInt8).contains b
def allB (s : ByteArray) : Bool := s.data.toList.all isB
theorem isB_int (b : UInt8) : isB b = true ↔ (b.toNat : Int) = 9 ∨ (b.toNat : Int) = 11 ∨ (b.toNat : Int) = 12 ∨ (b.toNat : Int) = 13 ∨ (b.toNat : Int) = 32 := by
  have e : ∀ c : UInt8, b = c ↔ b.toNat = c.toNat := fun c => ⟨fun h => by rw [h], fun h => UInt8.toNat_inj.mp h⟩
  unfold isB
  simp only [List.contains_cons, List.contains_nil, Bool.or_false, Bool.or_eq_true, beq_iff_eq, e]
  have e1 : (9 : UInt8).toNat = 9 := rfl
  have e2 : (11 : UInt8).toNat = 11 := rfl
  have e3 : (12 : UInt8).toNat = 12 := rfl
  have e4 : (13 : UInt8).toNat = 13 := rfl
  have e5 : (32 : UInt8).toNat = 32 := rfl
  rw [e1, e2, e3, e4, e5]
  omega
theorem mem_dw (p : UInt8 → Bool) : ∀ (l : List UInt8) (x : UInt8), x ∈ l → p x = false → x ∈ l.dropWhile p
  | [], _, h, _ => h
  | a :: l, x, h, hp => by
    rw [List.dropWhile_cons]
    split
    · rename_i ha
      rcases List.mem_cons.mp h with rfl | h
      · rw [hp] at ha; cases ha
      · exact mem_dw p l x h hp
    · exact h
theorem all_dw (p : UInt8 → Bool) : ∀ l : List UInt8, l.all p = true → l.dropWhile p = []
  | [], _ => rfl
  | a :: l, h => by
    rw [List.all_cons, Bool.and_eq_true] at h
    rw [List.dropWhile_cons, if_pos h.1, all_dw p l h.2]
theorem trim_nil (l : List UInt8) : (Lib.trimS l [9, 11, 12, 13, 32] == []) = l.all isB := by
  unfold Lib.trimS Lib.trimLeftS Lib.trimRightS
  cases h : l.all isB with
  | true =>
    have h2 : l.reverse.all isB = true := by rw [List.all_reverse]; exact h
    have : l.reverse.dropWhile (fun b => ([9, 11, 12, 13, 32] : List UInt8).contains b) = [] := all_dw isB _ h2
    rw [this]; rfl
  | false =>
    obtain ⟨x, hx, hp⟩ : ∃ x ∈ l, isB x = false := by
      have := List.all_eq_false.mp h
      obtain ⟨x, hx, hp⟩ := this
      exact ⟨x, hx, Bool.eq_false_iff.mpr hp⟩
    have h1 : x ∈ l.reverse.dropWhile isB := mem_dw isB _ x (List.mem_reverse.mpr hx) hp
    have h2 : x ∈ (l.reverse.dropWhile isB).reverse.dropWhile isB := mem_dw isB _ x (List.mem_reverse.mpr h1) hp
    have h3 : (l.reverse.dropWhile isB).reverse.dropWhile isB ≠ [] := List.ne_nil_of_mem h2
    exact beq_eq_false_iff_ne.mpr h3
def bare (s : ByteArray) : ByteArray := if 0 < s.size ∧ bt s ((s.size : Int) - 1) = 10 then s.extract 0 (s.size - 1) else s
theorem data_len (s : ByteArray) : s.data.toList.length = s.size := by rw [Array.length_toList]; rfl
theorem last_byte (s : ByteArray) (n : Nat) (h : s.size = n + 1) : ∃ b : UInt8, s.data.toList = s.data.toList.take n ++ [b] ∧ bt s (n : Int) = (b.toNat : Int) := by
  have hl : n < s.data.toList.length := by rw [data_len]; omega
  refine ⟨s.data.toList[n], ?_, ?_⟩
  · rw [← List.take_succ_eq_append_getElem hl, List.take_of_length_le (by rw [data_len]; omega)]
  · rw [bt_list, List.getD_eq_getElem?_getD, List.getElem?_eq_getElem hl]; rfl
theorem bare_size (s : ByteArray) : (bare s).size ≤ s.size := by
  unfold bare; split
  · rw [ByteArray.size_extract]; omega
  · exact Nat.le_refl _
theorem p_bare (s : ByteArray) (hs : s.size ≤ 4000000000) : lines_Bare.f s = some (bare s) := by
  unfold lines_Bare.f strings_TrimSuffix.f stringslite_TrimSuffix.f stringslite_HasSuffix.f bare
  have h1 : (⟨#[10]⟩ : ByteArray).size = 1 := rfl
  rw [h1]
  by_cases h : 0 < s.size
  · obtain ⟨n, hn⟩ : ∃ n, s.size = n + 1 := ⟨s.size - 1, by omega⟩
    have w : wrap64 ((s.size : Int) - ((1 : Nat) : Int)) = (n : Int) := by rw [w64' (by omega) (by omega)]; omega
    obtain ⟨b, hb, hv⟩ := last_byte s n hn
    have hsuf : (s.extract n s.size).toList = [b] := by
      rw [Lib.toList_data, Lib.extract_data, hb, List.drop_left' (by rw [List.length_take, data_len]; omega), hn, show n + 1 - n = 1 by omega]; rfl
    have h10 : (⟨#[10]⟩ : ByteArray).toList = ([10] : List UInt8) := by rw [Lib.toList_data]
    rw [if_pos (by omega), w, if_pos (by omega), if_pos (by omega), Int.toNat_natCast, hsuf, h10, Option.bind_some]
    rw [show (s.size : Int) - 1 = (n : Int) by omega, hv]
    by_cases e : b = 10
    · rw [e]
      rw [if_pos (by rfl), if_pos (by omega), if_pos (by omega), if_pos ⟨h, by rfl⟩, show s.size - 1 = n by omega]
      rfl
    · have hne : ¬ (b.toNat : Int) = 10 := fun x => e (UInt8.toNat_inj.mp (by have : (10 : UInt8).toNat = 10 := rfl; omega))
      rw [if_neg (by simp [e]), if_neg (fun x => hne x.2)]
      rfl
  · rw [if_neg (by omega), Option.bind_some, if_neg (by simp), if_neg (fun x => h x.1)]
    rfl
theorem r_bare (s : ByteArray) (hs : s.size ≤ 4000000000) : selvageref01_Bare.f s = some (bare s) := by
  unfold selvageref01_Bare.f selvageref01_Whole.f bare
  by_cases h : 0 < s.size
  · have w : wrap64 ((s.size : Int) - 1) = (s.size : Int) - 1 := w_sub s.size (by omega)
    rw [if_pos (by omega), w, if_pos (by omega), if_pos (by omega), Option.bind_some]
    by_cases e : bt s ((s.size : Int) - 1) = 10
    · rw [if_pos (by rw [e]; rfl), if_pos (by omega), if_pos (by omega), if_pos ⟨h, e⟩, show ((s.size : Int) - 1).toNat = s.size - 1 by omega]
    · rw [if_neg (by simp [e]), if_neg (fun x => e x.2)]
  · rw [if_neg (by omega), Option.bind_some, if_neg (by simp), if_neg (fun x => h x.1)]
theorem p_blank (s : ByteArray) (hs : s.size ≤ 4000000000) : intern_Blank.f s = some (allB (bare s)) := by
  unfold intern_Blank.f
  have hb := bare_size s
  rw [p_bare s hs, Option.bind_some]
  unfold strings_Trim.f
  rw [if_pos ⟨by omega, by decide, by decide⟩, Option.bind_some, Lib.toList_data]
  have := trim_nil (bare s).data.toList
  unfold allB
  rw [← this]
theorem spc (a : Int) : selvageref05_Space.f a = some (decide (a = 9 ∨ a = 11 ∨ a = 12 ∨ a = 13 ∨ a = 32)) := by
  unfold selvageref05_Space.f
  by_cases h1 : a = 9
  · rw [if_pos h1, decide_eq_true (Or.inl h1)]
  · rw [if_neg h1]
    by_cases h2 : a = 11
    · rw [if_pos h2, decide_eq_true (by omega)]
    · rw [if_neg h2]
      by_cases h3 : a = 12
      · rw [if_pos h3, decide_eq_true (by omega)]
      · rw [if_neg h3]
        by_cases h4 : a = 13
        · rw [if_pos h4, decide_eq_true (by omega)]
        · rw [if_neg h4]
          by_cases h5 : a = 32
          · rw [decide_eq_true (by omega), h5]; rfl
          · rw [decide_eq_false (by omega), beq_eq_false_iff_ne.mpr h5]
theorem tail_at : ∀ (n : Nat) (s : ByteArray), s.size = n → n ≤ 4000000000 → ∃ r : ByteArray, Ev (fun k => selvageref05_tail.l0 k s) r ∧ (r.toList == ([] : List UInt8)) = allB s
  | 0, s, h, _ => by
    refine ⟨s, Ev.step (G := fun _ => some s) (fun k => by rw [selvageref05_tail.l0, if_neg (by omega)]) (Ev.pure _), ?_⟩
    have : s.data.toList = [] := List.eq_nil_of_length_eq_zero (by rw [data_len]; exact h)
    rw [Lib.toList_data]; unfold allB; rw [this]; rfl
  | n + 1, s, h, hn => by
    have w : wrap64 ((s.size : Int) - 1) = (n : Int) := by rw [w64' (by omega) (by omega)]; omega
    obtain ⟨b, hb, hv⟩ := last_byte s n h
    have hall : allB s = (allB (s.extract 0 n) && isB b) := by
      unfold allB
      rw [Lib.extract_data, List.drop_zero, Nat.sub_zero]
      conv => lhs; rw [hb]
      rw [List.all_append]
      simp
    cases hB : isB b with
    | true =>
      obtain ⟨r, h1, h2⟩ := tail_at n (s.extract 0 n) (by rw [ByteArray.size_extract]; omega) (by omega)
      refine ⟨r, Ev.step (fun k => ?_) h1, by rw [h2, hall, hB, Bool.and_true]⟩
      have hsp := (isB_int b).mp hB
      rw [selvageref05_tail.l0, w, hv, spc, decide_eq_true hsp, Option.bind_some, if_pos (by omega), if_pos (by omega), if_pos (by omega), if_pos rfl, if_pos (by omega), Int.toNat_natCast]
    | false =>
      refine ⟨s, Ev.step (G := fun _ => some s) (fun k => ?_) (Ev.pure _), ?_⟩
      · have hsp : ¬ ((b.toNat : Int) = 9 ∨ (b.toNat : Int) = 11 ∨ (b.toNat : Int) = 12 ∨ (b.toNat : Int) = 13 ∨ (b.toNat : Int) = 32) := fun x => by rw [(isB_int b).mpr x] at hB; cases hB
        rw [selvageref05_tail.l0, w, hv, spc, decide_eq_false hsp, Option.bind_some, if_pos (by omega), if_pos (by omega), if_pos (by omega), if_neg (by simp)]
      · rw [hall, hB, Bool.and_false]
        exact beq_eq_false_iff_ne.mpr (fun e => by have := (toList_nil s).mp e; omega)
theorem r_blank (s : ByteArray) (hs : s.size ≤ 4000000000) : Ev (fun k => selvageref05_Blank.f k s) (allB (bare s)) := by
  have hb := bare_size s
  obtain ⟨r, h1, h2⟩ := tail_at (bare s).size (bare s) rfl (by omega)
  rw [← h2]
  have h1' : Ev (fun k => selvageref05_tail.f k (bare s)) r := h1
  exact Ev.same (fun k => by unfold selvageref05_Blank.f; rw [r_bare s hs, Option.bind_some]) (Ev.bind h1' (Ev.pure _))
def anyF (l : List ByteArray) : Bool := l.any fun s => !(allB (bare s))
theorem drop_ba (l : List ByteArray) (i : Nat) (h : i < l.length) : l.drop i = rdOf ByteArray.empty l (i : Int) :: l.drop (i + 1) := by
  rw [rd_nat, List.getD_eq_getElem?_getD, List.getElem?_eq_getElem h]
  exact List.drop_eq_getElem_cons h
theorem mem_rd (l : List ByteArray) (i : Nat) (h : i < l.length) : rdOf ByteArray.empty l (i : Int) ∈ l := by
  rw [rd_nat, List.getD_eq_getElem?_getD, List.getElem?_eq_getElem h]
  exact List.getElem_mem _
theorem full_loop (l : List ByteArray) (hl : l.length ≤ 4000000000) (hz : ∀ x ∈ l, x.size ≤ 4000000000) (d : Nat) : ∀ i : Nat, i + d = l.length → Ev (fun k => slide_full.l0 k l (l.length : Int) (i : Int)) (anyF (l.drop i)) := by
  induction d with
  | zero =>
    intro i h
    rw [List.drop_of_length_le (by omega)]
    exact Ev.step (G := fun _ => some false) (fun k => by rw [slide_full.l0, if_neg (by omega)]) (Ev.pure _)
  | succ d ih =>
    intro i h
    have w1 : wrap64 ((i : Int) + 1) = ((i + 1 : Nat) : Int) := w_add i 1 (by omega)
    rw [drop_ba l i (by omega)]
    have hx := hz _ (mem_rd l i (by omega))
    cases hB : allB (bare (rdOf ByteArray.empty l (i : Int))) with
    | true =>
      have e : anyF (rdOf ByteArray.empty l (i : Int) :: l.drop (i + 1)) = anyF (l.drop (i + 1)) := by unfold anyF; rw [List.any_cons, hB]; rfl
      rw [e]
      refine Ev.step (fun k => ?_) (ih (i + 1) (by omega))
      rw [slide_full.l0, p_blank _ hx, hB, w1, Option.bind_some, if_pos (by omega), if_pos (by omega), if_pos (by omega), if_pos rfl]
    | false =>
      have e : anyF (rdOf ByteArray.empty l (i : Int) :: l.drop (i + 1)) = true := by unfold anyF; rw [List.any_cons, hB]; rfl
      rw [e]
      refine Ev.step (G := fun _ => some true) (fun k => ?_) (Ev.pure _)
      rw [slide_full.l0, p_blank _ hx, hB, Option.bind_some, if_pos (by omega), if_pos (by omega), if_pos (by omega), if_neg (by simp)]
theorem full_at (l : List ByteArray) (hl : l.length ≤ 4000000000) (hz : ∀ x ∈ l, x.size ≤ 4000000000) : Ev (fun k => slide_full.f k l) (anyF l) := by
  have := full_loop l hl hz l.length 0 (by omega)
  rw [List.drop_zero] at this
  exact this
theorem counts_loop (l : List ByteArray) (hl : l.length ≤ 4000000000) (hz : ∀ x ∈ l, x.size ≤ 4000000000) (d : Nat) : ∀ i : Nat, i + d = l.length → Ev (fun k => selvageref09_counts.l0 k l (i : Int)) (anyF (l.drop i)) := by
  induction d with
  | zero =>
    intro i h
    rw [List.drop_of_length_le (by omega)]
    exact Ev.step (G := fun _ => some false) (fun k => by rw [selvageref09_counts.l0, if_neg (by omega)]) (Ev.pure _)
  | succ d ih =>
    intro i h
    have w1 : wrap64 ((i : Int) + 1) = ((i + 1 : Nat) : Int) := w_add i 1 (by omega)
    rw [drop_ba l i (by omega)]
    have hx := r_blank _ (hz _ (mem_rd l i (by omega)))
    refine Ev.step (G := fun k => (selvageref05_Blank.f k (rdOf ByteArray.empty l (i : Int))).bind fun t => (if t = true then (selvageref09_counts.l0 k l ((i + 1 : Nat) : Int)) else (some true))) (fun k => by rw [selvageref09_counts.l0, w1, if_pos (by omega), if_pos (by omega)]) (Ev.bind hx ?_)
    cases hB : allB (bare (rdOf ByteArray.empty l (i : Int))) with
    | true =>
      have e : anyF (rdOf ByteArray.empty l (i : Int) :: l.drop (i + 1)) = anyF (l.drop (i + 1)) := by unfold anyF; rw [List.any_cons, hB]; rfl
      rw [e]
      exact Ev.same (fun k => by rw [if_pos rfl]) (ih (i + 1) (by omega))
    | false =>
      have e : anyF (rdOf ByteArray.empty l (i : Int) :: l.drop (i + 1)) = true := by unfold anyF; rw [List.any_cons, hB]; rfl
      rw [e]
      exact Ev.same (G := fun _ => some true) (fun k => by rw [if_neg (by simp)]) (Ev.pure _)
theorem counts_at (l : List ByteArray) (hl : l.length ≤ 4000000000) (hz : ∀ x ∈ l, x.size ≤ 4000000000) : Ev (fun k => selvageref09_counts.f k l) (anyF l) := by
  have := counts_loop l hl hz l.length 0 (by omega)
  rw [List.drop_zero] at this
  exact this
theorem valid_mem (n m : Int) : ∀ (l : List S43) (a b : Int), validP n m l a b → 0 ≤ a → 0 ≤ b → ∀ c ∈ l, 0 ≤ c.f0 ∧ 0 ≤ c.f1 ∧ c.f0 + c.f1 ≤ n ∧ 0 ≤ c.f2 ∧ 0 ≤ c.f3 ∧ c.f2 + c.f3 ≤ m
  | [], _, _, _, _, _, c, hc => by cases hc
  | x :: t, a, b, hv, ha, hb, c, hc => by
    obtain ⟨⟨q1, q2, q3, q4, q5, q6, q7, q8, q9, q10⟩, hv2⟩ := hv
    rcases List.mem_cons.mp hc with rfl | h
    · exact ⟨by omega, q1, by omega, by omega, q2, by omega⟩
    · exact valid_mem n m t _ _ hv2 (by omega) (by omega) c h
def cutB (l : List ByteArray) (a b : Int) : List ByteArray := (l.take b.toNat).drop a.toNat
theorem cutB_mem {l : List ByteArray} {a b : Int} {x : ByteArray} (h : x ∈ cutB l a b) : x ∈ l := List.mem_of_mem_take (List.mem_of_mem_drop h)
theorem cutB_len (l : List ByteArray) (a b : Int) : (cutB l a b).length ≤ l.length := by unfold cutB; rw [List.length_drop, List.length_take]; omega
def keepC (la lb : List ByteArray) (c : S43) : Bool := anyF (cutB la c.f0 (c.f0 + c.f1)) || anyF (cutB lb c.f2 (c.f2 + c.f3))
theorem rd_mem43 (l : List S43) (i : Nat) (h : i < l.length) : rd_T43 l (i : Int) ∈ l := by
  unfold rd_T43
  rw [Int.toNat_natCast, List.getD_eq_getElem?_getD, List.getElem?_eq_getElem h]
  exact List.getElem_mem _
theorem blanks_loop (la lb : List ByteArray) (h1 : la.length ≤ 4194304) (h2 : lb.length ≤ 4194304) (z1 : ∀ x ∈ la, x.size ≤ 4000000000) (z2 : ∀ x ∈ lb, x.size ≤ 4000000000) (l : List S43) (hl : l.length ≤ 3000000000)
    (hv : ∀ c ∈ l, 0 ≤ c.f0 ∧ 0 ≤ c.f1 ∧ c.f0 + c.f1 ≤ (la.length : Int) ∧ 0 ≤ c.f2 ∧ 0 ≤ c.f3 ∧ c.f2 + c.f3 ≤ (lb.length : Int)) (d : Nat) : ∀ (i : Nat) (out : List S43), i + d = l.length → out.length ≤ i →
    Ev (fun k => slide_Blanks.l0 k la lb out l (l.length : Int) (i : Int)) (out ++ (l.drop i).filter (keepC la lb), none) ∧ Ev (fun k => selvageref09_Blanks.l0 k la lb l out (i : Int)) (out ++ (l.drop i).filter (keepC la lb), 0) := by
  induction d with
  | zero =>
    intro i out h ho
    rw [List.drop_of_length_le (by omega), List.filter_nil, List.append_nil]
    exact ⟨Ev.step (G := fun _ => some (out, none)) (fun k => by rw [slide_Blanks.l0, if_neg (by omega)]) (Ev.pure _), Ev.step (G := fun _ => some (out, 0)) (fun k => by rw [selvageref09_Blanks.l0, if_neg (by omega)]) (Ev.pure _)⟩
  | succ d ih =>
    intro i out h ho
    have w1 : wrap64 ((i : Int) + 1) = ((i + 1 : Nat) : Int) := w_add i 1 (by omega)
    obtain ⟨q1, q2, q3, q4, q5, q6⟩ := hv _ (rd_mem43 l i (by omega))
    rw [drop43 l i (by omega)]
    generalize hc : rd_T43 l (i : Int) = c at q1 q2 q3 q4 q5 q6 ⊢
    have e1 : wrap64 (c.f0 + c.f1) = c.f0 + c.f1 := w64' (by omega) (by omega)
    have e2 : wrap64 (c.f2 + c.f3) = c.f2 + c.f3 := w64' (by omega) (by omega)
    have la1 := cutB_len la c.f0 (c.f0 + c.f1)
    have lb1 := cutB_len lb c.f2 (c.f2 + c.f3)
    have f1 := full_at (cutB la c.f0 (c.f0 + c.f1)) (by omega) (fun x hx => z1 x (cutB_mem hx))
    have f2 := full_at (cutB lb c.f2 (c.f2 + c.f3)) (by omega) (fun x hx => z2 x (cutB_mem hx))
    have g1 := counts_at (cutB la c.f0 (c.f0 + c.f1)) (by omega) (fun x hx => z1 x (cutB_mem hx))
    have g2 := counts_at (cutB lb c.f2 (c.f2 + c.f3)) (by omega) (fun x hx => z2 x (cutB_mem hx))
    obtain ⟨i1, i2⟩ := ih (i + 1) (out ++ [c]) (by omega) (by rw [List.length_append, List.length_singleton]; omega)
    obtain ⟨j1, j2⟩ := ih (i + 1) out (by omega) (by omega)
    have hkeep : (c :: l.drop (i + 1)).filter (keepC la lb) = if keepC la lb c = true then c :: (l.drop (i + 1)).filter (keepC la lb) else (l.drop (i + 1)).filter (keepC la lb) := List.filter_cons ..
    rw [hkeep]
    constructor
    · refine Ev.step (G := fun k => (slide_full.f k (cutB la c.f0 (c.f0 + c.f1))).bind fun t => (if t = true then slide_Blanks.l0 k la lb (out ++ [c]) l (l.length : Int) ((i + 1 : Nat) : Int) else ((slide_full.f k (cutB lb c.f2 (c.f2 + c.f3))).bind fun u => (if u = true then slide_Blanks.l0 k la lb (out ++ [c]) l (l.length : Int) ((i + 1 : Nat) : Int) else slide_Blanks.l0 k la lb out l (l.length : Int) ((i + 1 : Nat) : Int))))) (fun k => ?_) (Ev.bind f1 ?_)
      · rw [slide_Blanks.l0, hc, e1, e2, w1, if_pos (by omega), if_pos (by omega), if_pos (by omega), if_pos (by omega), if_pos (by omega), if_pos (by omega)]
        rw [if_pos (show out.length < 4398046511104 by omega), if_pos q4, if_pos (show c.f2 ≤ c.f2 + c.f3 by omega), if_pos q6]; rfl
      · rw [show keepC la lb c = (anyF (cutB la c.f0 (c.f0 + c.f1)) || anyF (cutB lb c.f2 (c.f2 + c.f3))) from rfl]
        cases anyF (cutB la c.f0 (c.f0 + c.f1)) with
        | true =>
          rw [Bool.true_or, if_pos rfl, show out ++ c :: (l.drop (i + 1)).filter (keepC la lb) = (out ++ [c]) ++ (l.drop (i + 1)).filter (keepC la lb) by rw [List.append_assoc]; rfl]
          exact Ev.same (fun k => by rw [if_pos rfl]) i1
        | false =>
          rw [Bool.false_or]
          refine Ev.same (G := fun k => (slide_full.f k (cutB lb c.f2 (c.f2 + c.f3))).bind fun u => (if u = true then slide_Blanks.l0 k la lb (out ++ [c]) l (l.length : Int) ((i + 1 : Nat) : Int) else slide_Blanks.l0 k la lb out l (l.length : Int) ((i + 1 : Nat) : Int))) (fun k => by rw [if_neg (by simp)]) (Ev.bind f2 ?_)
          cases anyF (cutB lb c.f2 (c.f2 + c.f3)) with
          | true =>
            rw [if_pos rfl, show out ++ c :: (l.drop (i + 1)).filter (keepC la lb) = (out ++ [c]) ++ (l.drop (i + 1)).filter (keepC la lb) by rw [List.append_assoc]; rfl]
            exact Ev.same (fun k => by rw [if_pos rfl]) i1
          | false =>
            rw [if_neg (by simp)]
            exact Ev.same (fun k => by rw [if_neg (by simp)]) j1
    · refine Ev.step (G := fun k => (selvageref09_counts.f k (cutB la c.f0 (c.f0 + c.f1))).bind fun t => (if t = true then selvageref09_Blanks.l0 k la lb l (out ++ [c]) ((i + 1 : Nat) : Int) else ((selvageref09_counts.f k (cutB lb c.f2 (c.f2 + c.f3))).bind fun u => (if u = true then selvageref09_Blanks.l0 k la lb l (out ++ [c]) ((i + 1 : Nat) : Int) else selvageref09_Blanks.l0 k la lb l out ((i + 1 : Nat) : Int))))) (fun k => ?_) (Ev.bind g1 ?_)
      · rw [selvageref09_Blanks.l0, hc, e1, e2, w1, if_pos (by omega), if_pos (by omega), if_pos (by omega), if_pos (by omega), if_pos (by omega)]
        rw [if_pos (show out.length < 4398046511104 by omega), if_pos q4, if_pos (show c.f2 ≤ c.f2 + c.f3 by omega), if_pos q6]; rfl
      · rw [show keepC la lb c = (anyF (cutB la c.f0 (c.f0 + c.f1)) || anyF (cutB lb c.f2 (c.f2 + c.f3))) from rfl]
        cases anyF (cutB la c.f0 (c.f0 + c.f1)) with
        | true =>
          rw [Bool.true_or, if_pos rfl, show out ++ c :: (l.drop (i + 1)).filter (keepC la lb) = (out ++ [c]) ++ (l.drop (i + 1)).filter (keepC la lb) by rw [List.append_assoc]; rfl]
          exact Ev.same (fun k => by rw [if_pos rfl]) i2
        | false =>
          rw [Bool.false_or]
          refine Ev.same (G := fun k => (selvageref09_counts.f k (cutB lb c.f2 (c.f2 + c.f3))).bind fun u => (if u = true then selvageref09_Blanks.l0 k la lb l (out ++ [c]) ((i + 1 : Nat) : Int) else selvageref09_Blanks.l0 k la lb l out ((i + 1 : Nat) : Int))) (fun k => by rw [if_neg (by simp)]) (Ev.bind g2 ?_)
          cases anyF (cutB lb c.f2 (c.f2 + c.f3)) with
          | true =>
            rw [if_pos rfl, show out ++ c :: (l.drop (i + 1)).filter (keepC la lb) = (out ++ [c]) ++ (l.drop (i + 1)).filter (keepC la lb) by rw [List.append_assoc]; rfl]
            exact Ev.same (fun k => by rw [if_pos rfl]) i2
          | false =>
            rw [if_neg (by simp)]
            exact Ev.same (fun k => by rw [if_neg (by simp)]) j2
theorem blanks_at (s : List S43) (la lb : List ByteArray) (hs : s.length ≤ 2000000000) (h1 : la.length ≤ 4194304) (h2 : lb.length ≤ 4194304) (z1 : ∀ x ∈ la, x.size ≤ 4000000000) (z2 : ∀ x ∈ lb, x.size ≤ 4000000000) :
    ∃ r : List S43 × Option Int, r.1.length ≤ 3000000001 ∧ Ev (fun k => slide_Blanks.f k s la lb) r ∧ Ev (fun k => selvageref09_Blanks.f k s la lb) (r.1, num r.2) := by
  have hN := norm_at s (by omega) (la.length : Int) (lb.length : Int) (by omega) (by omega)
  have hRN := rnorm_at s (by omega) (la.length : Int) (lb.length : Int) (by omega) (by omega)
  cases hV : validS s (la.length : Int) (lb.length : Int) with
  | some e =>
    have he := validS_some hV
    have hnS : normS s (la.length : Int) (lb.length : Int) = ([], some e) := by unfold normS; rw [hV, if_neg (by simp)]
    rw [hnS] at hN hRN
    refine ⟨([], some e), by simp, ?_, ?_⟩
    · exact Ev.bind hN (Ev.same (G := fun _ => some ([], some e)) (fun k => by rw [if_neg (by simp)]; rfl) (Ev.pure _))
    · exact Ev.bind hRN (Ev.same (G := fun _ => some ([], e)) (fun k => by rw [if_neg (show ¬ num (some e) = 0 from he)]; rfl) (Ev.pure _))
  | none =>
    obtain ⟨hn, hm, hp⟩ := validS_none hV
    have hnS : normS s (la.length : Int) (lb.length : Int) = (nrm s 0 0 0 0, none) := by unfold normS; rw [hV, if_pos (show (none : Option Int).isNone = true from rfl)]
    rw [hnS] at hN hRN
    have hv0 := valid_mem _ _ _ _ _ (nrm_valid0 (la.length : Int) (lb.length : Int) s hp) (by omega) (by omega)
    have hlen := nrm_length s 0 0 0 0
    generalize nrm s 0 0 0 0 = l at hN hRN hv0 hlen
    obtain ⟨p1, p2⟩ := blanks_loop la lb h1 h2 z1 z2 l (by omega) hv0 l.length 0 [] (by omega) (by simp)
    rw [List.drop_zero, List.nil_append] at p1 p2
    refine ⟨(l.filter (keepC la lb), none), by have := List.length_filter_le (keepC la lb) l; show (l.filter (keepC la lb)).length ≤ _; omega, ?_, ?_⟩
    · exact Ev.bind hN (Ev.same (fun k => by rw [if_pos (show ((l, none) : List S43 × Option Int).2.isNone = true from rfl)]; rfl) p1)
    · exact Ev.bind hRN (Ev.same (fun k => by rw [if_pos (show ((l, num none) : List S43 × Int).2 = 0 from rfl)]; rfl) p2)
theorem size_sum : ∀ (l : List ByteArray), ∀ x ∈ l, x.size ≤ (l.map (·.size)).sum
  | [], x, h => by cases h
  | y :: l, x, h => by
    rw [List.map_cons, List.sum_cons]
    rcases List.mem_cons.mp h with rfl | h
    · omega
    · have := size_sum l x h; omega
theorem SlideBlanks : ∀ (a0 : List S43) (a1 a2 : List ByteArray), (∀ z ∈ a0, Ext.ok43 z) → ((a0.map Ext.wt43).sum + 1) + ((a1.map (·.size)).sum + a1.length + 1) + ((a2.map (·.size)).sum + a2.length + 1) ≤ 1048576 → ∃ k, selvagelaw09_SlideBlanks.f k a0 a1 a2 = some true := by
  intro a0 a1 a2 _ hb
  have hw := sum_wt a0
  obtain ⟨r, hr, p1, p2⟩ := blanks_at a0 a1 a2 (by omega) (by omega) (by omega) (fun x hx => by have := size_sum a1 x hx; omega) (fun x hx => by have := size_sum a2 x hx; omega)
  refine (Ev.bind p1 (Ev.bind p2 (Ev.bind (same_at r.1 (by omega)) ?_)) : Ev (fun k => selvagelaw09_SlideBlanks.f k a0 a1 a2) true).get
  refine Ev.same (G := fun k => (selvagelaw09_sure.f k).bind fun t4 => (some t4)) (fun k => ?_) (Ev.bind ev_sure (Ev.pure _))
  rw [if_pos rfl, num_at, Option.bind_some, if_pos rfl]
end Go.Proofs.YtmfanpibpmajnaaDoor.Pure
