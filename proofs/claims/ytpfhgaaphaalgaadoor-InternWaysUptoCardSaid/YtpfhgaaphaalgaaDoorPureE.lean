/-
  InternWays, in plain Lean: what counts as equal with fewer ways counts so with more.
-/
import Derived.Test.YtpfhgaaphaalgaaDoorPureD
import Derived.Test.YtpfhgaaphaalgaaDoorPw0
namespace Go.Proofs.YtpfhgaaphaalgaaDoor.Pure
open Go.RowKit Go.Proofs.YtpfhgaaphaalgaaDoor.Pp Go.Proofs.YtpfhgaaphaalgaaDoor.Ext Go.Proofs.YtpfhgaaphaalgaaDoorW.PrintWords Go.Proofs.YtpfhgaaphaalgaaDoorW.PrintLast Go.Proofs.YtpfhgaaphaalgaaDoorW.PrintMore
def lowL (l : List UInt8) : List UInt8 := l.map lowB
theorem low_all : ∀ n : Fin 256, isB (lowB (UInt8.ofNat n.val)) = isB (UInt8.ofNat n.val) ∧ lowB (lowB (UInt8.ofNat n.val)) = lowB (UInt8.ofNat n.val) ∧ (lowB (UInt8.ofNat n.val) = 10 → UInt8.ofNat n.val = 10) := by decide +kernel
theorem low_at (b : UInt8) : isB (lowB b) = isB b ∧ lowB (lowB b) = lowB b ∧ (lowB b = 10 → b = 10) := by
  have := low_all ⟨b.toNat, b.toNat_lt⟩
  simpa using this
theorem low_low (l : List UInt8) : lowL (lowL l) = lowL l := by
  unfold lowL
  rw [List.map_map]
  exact List.map_congr_left (fun b _ => (low_at b).2.1)
theorem tail_low : ∀ l, tailL (lowL l) = lowL (tailL l)
  | [] => rfl
  | a :: x => by
    have ih := tail_low x
    show tailL (lowB a :: lowL x) = lowL (tailL (a :: x))
    rw [tailL_cons, tailL_cons, ih, (low_at a).1]
    by_cases h : tailL x = []
    · rw [if_pos h, if_pos (by rw [h]; rfl)]; split <;> rfl
    · rw [if_neg h, if_neg (by unfold lowL; simpa using h)]; rfl
theorem amt_low : ∀ (l : List UInt8) (run : Bool), amt run (lowL l) = lowL (amt run l)
  | [], _ => rfl
  | a :: x, run => by
    have i1 := amt_low x true
    have i2 := amt_low x false
    show amt run (lowB a :: lowL x) = _
    simp only [amt, (low_at a).1]
    have e32 : lowB 32 = 32 := by decide
    split
    · exact i1
    · split
      · rw [i2]; simp [lowL, e32]
      · rw [i2]; simp [lowL]
theorem filt_low (l : List UInt8) : (lowL l).filter nB = lowL (l.filter nB) := by
  unfold lowL
  rw [List.filter_map]
  congr 1
  exact List.filter_congr (fun b _ => by simp [nB, (low_at b).1])
theorem dw_idem (p : UInt8 → Bool) : ∀ l : List UInt8, (l.dropWhile p).dropWhile p = l.dropWhile p
  | [] => rfl
  | a :: x => by
    rw [List.dropWhile_cons]
    split
    · exact dw_idem p x
    · rename_i h; rw [List.dropWhile_cons, if_neg h]
theorem tail_idem (l : List UInt8) : tailL (tailL l) = tailL l := by
  unfold tailL
  rw [List.reverse_reverse, dw_idem]
theorem amt_tail : ∀ (l : List UInt8) (run : Bool), amt run (tailL l) = amt run l
  | [], _ => rfl
  | a :: x, run => by
    have i1 := amt_tail x true
    have i2 := amt_tail x false
    rw [tailL_cons]
    by_cases h : tailL x = []
    · rw [h] at i1 i2
      simp only [amt] at i1 i2
      rw [if_pos h]
      cases hA : isB a with
      | true => rw [if_pos rfl]; simp only [amt, hA]; exact i1
      | false => rw [if_neg (by simp)]; simp [amt, hA, ← i2]
    · rw [if_neg h]
      simp only [amt, i1, i2]
theorem filt_tail : ∀ l : List UInt8, (tailL l).filter nB = l.filter nB
  | [] => rfl
  | a :: x => by
    have ih := filt_tail x
    rw [tailL_cons]
    by_cases h : tailL x = []
    · rw [h] at ih
      rw [if_pos h]
      cases hA : isB a with
      | true => rw [if_pos rfl, List.filter_cons, if_neg (by simp [nB, hA])]; exact ih
      | false => rw [if_neg (by simp), List.filter_cons, List.filter_cons, if_pos (by simp [nB, hA]), if_pos (by simp [nB, hA]), ← ih]
    · rw [if_neg h, List.filter_cons, List.filter_cons, ih]
theorem amt_amt : ∀ l : List UInt8, amt false (amt false l) = amt false l ∧ amt false (amt true l) = amt true l
  | [] => ⟨rfl, rfl⟩
  | b :: t => by
    obtain ⟨i1, i2⟩ := amt_amt t
    have e32 : isB 32 = true := rfl
    cases hB : isB b with
    | true => simp only [amt, hB, if_pos]; exact ⟨i2, i2⟩
    | false => simp [amt, hB, e32, i1]
theorem filt_amt : ∀ (l : List UInt8) (run : Bool), (amt run l).filter nB = l.filter nB
  | [], _ => rfl
  | b :: t, run => by
    have i1 := filt_amt t true
    have i2 := filt_amt t false
    have e32 : nB 32 = false := rfl
    cases hB : isB b with
    | true => simp [amt, hB, nB, i1]
    | false =>
      have hn : nB b = true := by simp [nB, hB]
      cases run <;> simp [amt, hB, hn, e32, i2]
theorem tail_amt (l : List UInt8) : tailL (amt false l) = amt false l := by rw [(amt_runs l).1, tail_idem]
theorem tail_filt : ∀ l : List UInt8, tailL (l.filter nB) = l.filter nB
  | [] => rfl
  | a :: x => by
    have ih := tail_filt x
    rw [List.filter_cons]
    split
    · rename_i h
      have hA : isB a = false := by simpa [nB] using h
      rw [tailL_cons, ih, hA]
      split
      · rename_i h2; rw [h2]; rfl
      · rfl
    · exact ih
theorem tail_split {a : UInt8} {x : List UInt8} (h : tailL (a :: x) = a :: x) : (x = [] ∧ isB a = false) ∨ (x ≠ [] ∧ tailL x = x) := by
  rw [tailL_cons] at h
  by_cases c : tailL x = []
  · rw [if_pos c] at h
    cases hA : isB a with
    | true => rw [hA, if_pos rfl] at h; cases h
    | false => rw [hA, if_neg (by simp)] at h; injection h with _ h; exact .inl ⟨h.symm, rfl⟩
  · rw [if_neg c] at h
    injection h with _ h
    exact .inr ⟨by rw [← h]; exact c, h⟩
theorem amt_ten : ∀ (x : List UInt8) (run : Bool), tailL x = x → x ≠ [] → amt run (x ++ [10]) = amt run x ++ [10]
  | [], _, _, h => absurd rfl h
  | a :: x, run, h, _ => by
    have e10 : isB 10 = false := rfl
    rcases tail_split h with ⟨rfl, hA⟩ | ⟨hn, hx⟩
    · cases run <;> simp [amt, hA, e10]
    · have i1 := amt_ten x true hx hn
      have i2 := amt_ten x false hx hn
      cases hA : isB a with
      | true => simp only [List.cons_append, amt, hA, if_pos]; exact i1
      | false => cases run <;> simp [amt, hA, i2]
def midM : Nat → List UInt8 → List UInt8
  | 0, l => l
  | 1, l => tailL l
  | 2, l => amt false l
  | _, l => l.filter nB
def md (e : Int) : Nat := if (Go.bits .and .i64 e 2) = 0 then (if (Go.bits .and .i64 e 4) = 0 then (if (Go.bits .and .i64 e 8) = 0 then 0 else 1) else 2) else 3
theorem mid_md (l : List UInt8) (e : Int) : midL l e = midM (md e) l := by
  unfold midL md
  split
  · split
    · split <;> rfl
    · rfl
  · rfl
theorem md_le (e : Int) : md e ≤ 3 := by unfold md; split <;> (try split) <;> (try split) <;> omega
theorem mid_low (a : Nat) (l : List UInt8) : midM a (lowL l) = lowL (midM a l) := by
  match a with
  | 0 => rfl
  | 1 => exact tail_low l
  | 2 => exact amt_low l false
  | _ + 3 => exact filt_low l
theorem mid_mid (a b : Nat) (hab : a ≤ b) (hb : b ≤ 3) (l : List UInt8) : midM b (midM a l) = midM b l := by
  match a, b with
  | 0, _ => rfl
  | 1, 1 => exact tail_idem l
  | 1, 2 => exact amt_tail l false
  | 1, 3 => exact filt_tail l
  | 2, 2 => exact (amt_amt l).1
  | 2, 3 => exact filt_amt l false
  | 3, 3 => show (l.filter nB).filter nB = l.filter nB; rw [List.filter_filter]; simp
  | _ + 4, _ => omega
  | 1, 0 => omega
  | 2, 0 => omega
  | 2, 1 => omega
  | 3, 0 => omega
  | 3, 1 => omega
  | 3, 2 => omega
  | _, _ + 4 => omega
theorem mid_cut (a : Nat) (ha : 1 ≤ a) (l : List UInt8) : tailL (midM a l) = midM a l := by
  match a with
  | 1 => exact tail_idem l
  | 2 => exact tail_amt l
  | _ + 3 => exact tail_filt l
theorem mid_ten (b : Nat) (x : List UInt8) (hx : tailL x = x) : midM b (x ++ [10]) = midM b x ++ [10] := by
  have e10 : isB 10 = false := rfl
  match b with
  | 0 => rfl
  | 1 =>
    show tailL (x ++ [10]) = tailL x ++ [10]
    rw [hx]
    unfold tailL
    rw [List.reverse_append]
    simp [e10]
  | 2 =>
    show amt false (x ++ [10]) = amt false x ++ [10]
    by_cases h : x = []
    · subst h; rfl
    · exact amt_ten x false hx h
  | _ + 3 => show (x ++ [10]).filter nB = x.filter nB ++ [10]; rw [List.filter_append]; rfl
theorem line_parts (s : ByteArray) : ((s.extract (bare s).size s.size).data.toList = [10]) ∨ ((s.extract (bare s).size s.size).data.toList = [] ∧ ∀ y, (bare s).data.toList ≠ y ++ [10]) := by
  unfold bare
  by_cases h : 0 < s.size ∧ bt s ((s.size : Int) - 1) = 10
  · rw [if_pos h]
    left
    obtain ⟨n, hn⟩ : ∃ n, s.size = n + 1 := ⟨s.size - 1, by omega⟩
    obtain ⟨b, hb, hv⟩ := last_byte s n hn
    have hb10 : b = 10 := by
      have h2 := h.2
      rw [show (s.size : Int) - 1 = (n : Int) by omega, hv] at h2
      exact UInt8.toNat_inj.mp (by have : (10 : UInt8).toNat = 10 := rfl; omega)
    rw [ByteArray.size_extract, Lib.extract_data, hb, hn, show min (n + 1 - 1) (n + 1) - 0 = n by omega, List.drop_left' (by rw [List.length_take, data_len]; omega), hb10, show n + 1 - n = 1 by omega]
    rfl
  · rw [if_neg h]
    right
    constructor
    · rw [Lib.extract_data, List.drop_of_length_le (by rw [data_len]; omega)]; simp
    · intro y hy
      apply h
      have hl : s.size = y.length + 1 := by rw [← data_len, hy]; simp
      refine ⟨by omega, ?_⟩
      rw [show (s.size : Int) - 1 = ((y.length : Nat) : Int) by omega, bt_list, hy]
      simp
theorem key_data (s : ByteArray) (e : Int) (h0 : 0 ≤ e) (h1 : e ≤ 15) : (keyS s e).data.toList = lowE (midM (md e) (bare s).data.toList) e ++ (s.extract (bare s).size s.size).data.toList := by
  unfold keyS
  rw [if_pos ⟨h0, h1⟩, app_data, mid_md]
def loE (e : Int) : Bool := decide (Go.bits .and .i64 e 1 = 0)
theorem lowE_at (l : List UInt8) (e : Int) : lowE l e = if loE e = true then l else lowL l := by
  unfold lowE loE
  by_cases h : Go.bits .and .i64 e 1 = 0
  · rw [if_pos h, if_pos (decide_eq_true h)]
  · rw [if_neg h, if_neg (by simpa using h)]; rfl
theorem absorb (e m : Int) (hmd : md e ≤ md m) (hlo : loE e = false → loE m = false) (b : List UInt8) : lowE (midM (md m) (lowE (midM (md e) b) e)) m = lowE (midM (md m) b) m := by
  have hm := md_le m
  rw [lowE_at _ m, lowE_at _ m, lowE_at _ e]
  cases h1 : loE e with
  | true => rw [if_pos rfl, mid_mid _ _ hmd hm]
  | false =>
    have h2 := hlo h1
    simp only [h2, Bool.false_eq_true, if_false]
    rw [mid_low, mid_mid _ _ hmd hm, low_low]
theorem cut_low (x : List UInt8) (hx : tailL x = x) (e : Int) : tailL (lowE x e) = lowE x e := by
  rw [lowE_at]
  split
  · exact hx
  · rw [tail_low, hx]
theorem lowE_ten (x : List UInt8) (e : Int) : lowE (x ++ [10]) e = lowE x e ++ [10] := by
  have e10 : lowB 10 = 10 := by decide
  rw [lowE_at, lowE_at]
  split
  · rfl
  · unfold lowL; rw [List.map_append]; simp [e10]
theorem lowE_end {x y : List UInt8} {e : Int} (h : lowE x e = y ++ [10]) : ∃ z, x = z ++ [10] := by
  rw [lowE_at] at h
  split at h
  · exact ⟨y, h⟩
  · unfold lowL at h
    rcases List.eq_nil_or_concat x with rfl | ⟨z, b, rfl⟩
    · simp at h
    · simp only [List.concat_eq_append, List.map_append, List.map_cons, List.map_nil] at h
      have h2 := List.append_inj' h rfl
      have hb := (low_at b).2.2 (by simpa using h2.2)
      exact ⟨z, by rw [hb]; simp⟩
theorem ways_up (e m : Int) (h0 : 0 ≤ e) (h1 : e ≤ 15) (g0 : 0 ≤ m) (g1 : m ≤ 15) (hmd : md e ≤ md m) (hlo : loE e = false → loE m = false) (s t : ByteArray) (h : (keyS s e).data.toList = (keyS t e).data.toList) :
    (keyS s m).data.toList = (keyS t m).data.toList := by
  rw [key_data s e h0 h1, key_data t e h0 h1] at h
  rw [key_data s m g0 g1, key_data t m g0 g1]
  have one : ∀ (b c : List UInt8), (∀ y, b ≠ y ++ [10]) → lowE (midM (md e) b) e = lowE (midM (md e) c) e ++ [10] → lowE (midM (md m) b) m = lowE (midM (md m) c) m ++ [10] := by
    intro b c hb hx
    rw [← absorb e m hmd hlo b, hx]
    by_cases he : md e = 0
    · exfalso
      rw [he] at hx
      obtain ⟨z, hz⟩ := lowE_end hx
      exact hb z hz
    · have hc := cut_low _ (mid_cut (md e) (by omega) c) e
      rw [mid_ten _ _ hc, lowE_ten, absorb e m hmd hlo c]
  rcases line_parts s with hs | ⟨hs, hs2⟩
  · rcases line_parts t with ht | ⟨ht, ht2⟩
    · rw [hs, ht] at h ⊢
      have h' := List.append_cancel_right h
      rw [← absorb e m hmd hlo, h', absorb e m hmd hlo]
    · rw [hs, ht, List.append_nil] at h ⊢
      exact (one _ _ ht2 h.symm).symm
  · rcases line_parts t with ht | ⟨ht, ht2⟩
    · rw [hs, ht, List.append_nil] at h ⊢
      exact one _ _ hs2 h
    · rw [hs, ht, List.append_nil, List.append_nil] at h ⊢
      rw [← absorb e m hmd hlo, h, absorb e m hmd hlo]
theorem sub_all : ∀ e m : Fin 16, Go.bits .and .i64 (m.val : Int) (e.val : Int) = (e.val : Int) → md (e.val : Int) ≤ md (m.val : Int) ∧ (loE (e.val : Int) = false → loE (m.val : Int) = false) := by decide +kernel
theorem sub_at (e m : Int) (h0 : 0 ≤ e) (h1 : e ≤ 15) (g0 : 0 ≤ m) (g1 : m ≤ 15) (h : Go.bits .and .i64 m e = e) : md e ≤ md m ∧ (loE e = false → loE m = false) := by
  have := sub_all ⟨e.toNat, by omega⟩ ⟨m.toNat, by omega⟩
  simp only [Int.toNat_of_nonneg h0, Int.toNat_of_nonneg g0] at this
  exact this h
def aK (s t : ByteArray) (e : Int) : Bool := (keyS s e).toList == (keyS t e).toList
theorem aK_iff (s t : ByteArray) (e : Int) : aK s t e = true ↔ (keyS s e).data.toList = (keyS t e).data.toList := by unfold aK; rw [beq_iff_eq, Lib.toList_data, Lib.toList_data]
theorem alike_ev (s t : ByteArray) (hs : s.size ≤ 4000000000) (ht : t.size ≤ 4000000000) (e : Int) : Ev (fun k => Pw.alikeF k s t e) (aK s t e) :=
  Ev.bind (p_key s e hs) (Ev.bind (p_key t e ht) (Ev.pure _))
theorem alike_all (s t : ByteArray) (hs : s.size ≤ 4000000000) (ht : t.size ≤ 4000000000) (n : Nat) : ∃ K, ∀ k, K ≤ k → ∀ m : Nat, m < n → Pw.alikeF k s t (m : Int) = some (aK s t (m : Int)) := by
  induction n with
  | zero => exact ⟨0, fun k _ m h => by omega⟩
  | succ n ih =>
    obtain ⟨K1, h1⟩ := ih
    obtain ⟨K2, h2⟩ := alike_ev s t hs ht (n : Int)
    refine ⟨max K1 K2, fun k hk m hm => ?_⟩
    by_cases e : m = n
    · subst e; exact h2 k (by have := Nat.le_max_right K1 K2; omega)
    · exact h1 k (by have := Nat.le_max_left K1 K2; omega) m (by omega)
theorem InternWays : ∀ (a0 a1 : ByteArray) (a2 : Int), (Lit.int .i64 a2).wf = true → (a0.size + 1) + (a1.size + 1) + 1 ≤ 1048576 → ∃ k, Pw.selvagelaw05_InternWays.f k a0 a1 a2 = some true := by
  intro a0 a1 a2 _ hb
  obtain ⟨b0, b1⟩ := and15 a2
  obtain ⟨K1, h1⟩ := alike_all a0 a1 (by omega) (by omega) 16
  obtain ⟨K2, h2⟩ := ev_sure
  refine ⟨max K1 K2, ?_⟩
  unfold Pw.selvagelaw05_InternWays.f
  rw [if_pos]
  generalize Go.bits .and .i64 a2 15 = e at b0 b1
  have up : ∀ e m : Int, 0 ≤ e → e ≤ 15 → 0 ≤ m → m ≤ 15 → md e ≤ md m → (loE e = false → loE m = false) → aK a0 a1 e = true → aK a0 a1 m = true := fun e m q0 q1 q2 q3 q4 q5 q => (aK_iff _ _ _).mpr (ways_up e m q0 q1 q2 q3 q4 q5 a0 a1 ((aK_iff _ _ _).mp q))
  refine ⟨aK a0 a1, b0, b1, fun m m0 m1 => ?_, fun m hm hA hbt => ?_, fun hst => ?_, up 8 4 (by omega) (by omega) (by omega) (by omega) (by decide) (by decide), up 4 2 (by omega) (by omega) (by omega) (by omega) (by decide) (by decide), h2 _ (Nat.le_max_right _ _)⟩
  · have := h1 (max K1 K2) (Nat.le_max_left _ _) m.toNat (by omega)
    rw [Int.toNat_of_nonneg m0] at this
    exact this
  · obtain ⟨s1, s2⟩ := sub_at e (m : Int) b0 b1 (by omega) (by omega) hbt
    exact up e (m : Int) b0 b1 (by omega) (by omega) s1 s2 hA
  · rw [(toList_eq_iff a0 a1).mp hst]
    unfold aK
    simp
end Go.Proofs.YtpfhgaaphaalgaaDoor.Pure
