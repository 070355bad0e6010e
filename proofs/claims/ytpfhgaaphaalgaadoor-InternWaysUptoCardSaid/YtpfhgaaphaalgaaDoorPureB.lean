/-
  Keys, in plain Lean: the program's and the document's are the same; whether a line is blank.
-/
import Derived.Test.YtpfhgaaphaalgaaDoorPureA
namespace Go.Proofs.YtpfhgaaphaalgaaDoor.Pure
open Go.RowKit Go.Proofs.YtpfhgaaphaalgaaDoor.Pp Go.Proofs.YtpfhgaaphaalgaaDoor.Ext Go.Proofs.YtpfhgaaphaalgaaDoorW.PrintWords Go.Proofs.YtpfhgaaphaalgaaDoorW.PrintLast Go.Proofs.YtpfhgaaphaalgaaDoorW.PrintMore
def bare (s : ByteArray) : ByteArray := if 0 < s.size ∧ bt s ((s.size : Int) - 1) = 10 then s.extract 0 (s.size - 1) else s
theorem bare_size (s : ByteArray) : (bare s).size ≤ s.size := by
  unfold bare; split
  · rw [ByteArray.size_extract]; omega
  · exact Nat.le_refl _
theorem p_bare (s : ByteArray) (hs : s.size ≤ 4000000000) : lines_Bare.f s = some (bare s) := by
  unfold lines_Bare.f strings_TrimSuffix.f stringslite_TrimSuffix.f stringslite_HasSuffix.f bare
  have h1 : (⟨#[10]⟩ : ByteArray).size = 1 := rfl
  rw [h1]
  by_cases h : 0 < s.size
  · obtain ⟨n, hn⟩ : ∃ n, s.size = n + 1 := ⟨s.size - 1, by omega⟩
    have w : wrap64 ((s.size : Int) - ((1 : Nat) : Int)) = (n : Int) := by rw [w64' (by omega) (by omega)]; omega
    obtain ⟨b, hb, hv⟩ := last_byte s n hn
    have hsuf : (s.extract n s.size).toList = [b] := by
      rw [Lib.toList_data, Lib.extract_data, hb, List.drop_left' (by rw [List.length_take, data_len]; omega), hn, show n + 1 - n = 1 by omega]; rfl
    have h10 : (⟨#[10]⟩ : ByteArray).toList = ([10] : List UInt8) := by rw [Lib.toList_data]
    rw [if_pos (by omega), w, if_pos (by omega), if_pos (by omega), Int.toNat_natCast, hsuf, h10, Option.bind_some]
    rw [show (s.size : Int) - 1 = (n : Int) by omega, hv]
    by_cases e : b = 10
    · rw [e]
      rw [if_pos (by rfl), if_pos (by omega), if_pos (by omega), if_pos ⟨h, by rfl⟩, show s.size - 1 = n by omega]
      rfl
    · have hne : ¬ (b.toNat : Int) = 10 := fun x => e (UInt8.toNat_inj.mp (by have : (10 : UInt8).toNat = 10 := rfl; omega))
      rw [if_neg (by simp [e]), if_neg (fun x => hne x.2)]
      rfl
  · rw [if_neg (by omega), Option.bind_some, if_neg (by simp), if_neg (fun x => h x.1)]
    rfl
theorem r_bare (s : ByteArray) (hs : s.size ≤ 4000000000) : selvageref01_Bare.f s = some (bare s) := by
  unfold selvageref01_Bare.f selvageref01_Whole.f bare
  by_cases h : 0 < s.size
  · have w : wrap64 ((s.size : Int) - 1) = (s.size : Int) - 1 := w_sub s.size (by omega)
    rw [if_pos (by omega), w, if_pos (by omega), if_pos (by omega), Option.bind_some]
    by_cases e : bt s ((s.size : Int) - 1) = 10
    · rw [if_pos (by rw [e]; rfl), if_pos (by omega), if_pos (by omega), if_pos ⟨h, e⟩, show ((s.size : Int) - 1).toNat = s.size - 1 by omega]
    · rw [if_neg (by simp [e]), if_neg (fun x => e x.2)]
  · rw [if_neg (by omega), Option.bind_some, if_neg (by simp), if_neg (fun x => h x.1)]
def midL (l : List UInt8) (e : Int) : List UInt8 :=
  if (Go.bits .and .i64 e 2) = 0 then (if (Go.bits .and .i64 e 4) = 0 then (if (Go.bits .and .i64 e 8) = 0 then l else tailL l) else amt false l) else l.filter nB
def lowE (l : List UInt8) (e : Int) : List UInt8 := if (Go.bits .and .i64 e 1) = 0 then l else l.map lowB
def keyS (s : ByteArray) (e : Int) : ByteArray :=
  if 0 ≤ e ∧ e ≤ 15 then ⟨(lowE (midL (bare s).data.toList e) e).toArray⟩ ++ s.extract (bare s).size s.size else s
theorem midL_len (l : List UInt8) (e : Int) : (midL l e).length ≤ l.length := by
  unfold midL
  have h1 := tailL_len l
  have h2 := amt_len l false
  have h3 := List.length_filter_le nB l
  simp at h2
  split
  · split
    · split
      · exact Nat.le_refl _
      · exact h1
    · exact h2
  · exact h3
theorem lowE_len (l : List UInt8) (e : Int) : (lowE l e).length = l.length := by unfold lowE; split <;> simp
theorem mk_size (l : List UInt8) : (⟨l.toArray⟩ : ByteArray).size = l.length := rfl
theorem keyS_size (s : ByteArray) (e : Int) : (keyS s e).size ≤ s.size := by
  unfold keyS
  have hb := bare_size s
  have h1 := midL_len (bare s).data.toList e
  have h2 := lowE_len (midL (bare s).data.toList e) e
  rw [data_len] at h1
  split
  · rw [ByteArray.size_append, ByteArray.size_extract, mk_size]; omega
  · exact Nat.le_refl _
theorem end_p (m end_ : ByteArray) (h : m.size + end_.size ≤ 9223372036854775807) : (if m.size + end_.size ≤ 9223372036854775807 then (some (m ++ end_)) else (none)) = some (m ++ end_) := if_pos h
theorem low_p (l : List UInt8) (e : Int) (end_ : ByteArray) (h : l.length + end_.size ≤ 9223372036854775807) :
    (if (Go.bits .and .i64 e 1) = 0 then (if (⟨l.toArray⟩ : ByteArray).size + end_.size ≤ 9223372036854775807 then (some ((⟨l.toArray⟩ : ByteArray) ++ end_)) else (none)) else ((intern_lower.f ⟨l.toArray⟩).bind fun t119 => (if t119.size + end_.size ≤ 9223372036854775807 then (some (t119 ++ end_)) else (none)))) = some ((⟨(lowE l e).toArray⟩ : ByteArray) ++ end_) := by
  unfold lowE
  by_cases c : (Go.bits .and .i64 e 1) = 0
  · rw [if_pos c, if_pos c, end_p _ _ (by rw [mk_size]; exact h)]
  · rw [if_neg c, if_neg c]
    unfold intern_lower.f
    rw [if_pos (by rw [mk_size]; omega), Option.bind_some]
    unfold lowS
    rw [end_p _ _ (by rw [mk_size, List.length_map]; simpa using h)]
theorem p_key (s : ByteArray) (e : Int) (hs : s.size ≤ 4000000000) : Ev (fun k => intern_Key.f k s e) (keyS s e) := by
  have hb := bare_size s
  by_cases h0 : e < 0
  · have : keyS s e = s := by unfold keyS; rw [if_neg (by omega)]
    rw [this]
    refine Ev.same (G := fun k => intern_Key.j0 k s e true) (fun k => by unfold intern_Key.f; rw [if_pos h0]) ?_
    exact Ev.step (f := fun _ => some s) (fun k => by rw [intern_Key.j0, if_pos rfl]) (Ev.pure _)
  · by_cases h1 : e > 15
    · have : keyS s e = s := by unfold keyS; rw [if_neg (by omega)]
      rw [this]
      refine Ev.same (G := fun k => intern_Key.j0 k s e true) (fun k => by unfold intern_Key.f; rw [if_neg h0, decide_eq_true h1]) ?_
      exact Ev.step (f := fun _ => some s) (fun k => by rw [intern_Key.j0, if_pos rfl]) (Ev.pure _)
    · refine Ev.same (G := fun k => intern_Key.j0 k s e false) (fun k => by unfold intern_Key.f; rw [if_neg h0, decide_eq_false h1]) ?_
      unfold keyS
      rw [if_pos (by omega)]
      have hsz : (s.extract (bare s).size s.size).size = s.size - (bare s).size := size_cut s _
      have hm := midL_len (bare s).data.toList e
      rw [data_len] at hm
      have hd : ∀ l : List UInt8, l.length ≤ (bare s).size → l.length + (s.extract (bare s).size s.size).size ≤ 9223372036854775807 := fun l hl => by rw [hsz]; omega
      have e0 : bare s = ⟨(bare s).data.toList.toArray⟩ := (mk_data _).symm
      unfold midL at hm ⊢
      by_cases b2 : (Go.bits .and .i64 e 2) = 0
      · by_cases b4 : (Go.bits .and .i64 e 4) = 0
        · by_cases b8 : (Go.bits .and .i64 e 8) = 0
          · rw [if_pos b2, if_pos b4, if_pos b8] at hm ⊢
            refine Ev.step (f := fun _ => some ((⟨(lowE (bare s).data.toList e).toArray⟩ : ByteArray) ++ s.extract (bare s).size s.size)) (fun k => ?_) (Ev.pure _)
            rw [intern_Key.j0, if_neg (by simp), p_bare s hs, Option.bind_some, if_pos (by omega), if_pos (by omega), if_pos b2, if_pos b4, if_pos b8]
            have := low_p (bare s).data.toList e (s.extract (bare s).size s.size) (hd _ hm)
            rw [mk_data] at this
            exact this
          · rw [if_pos b2, if_pos b4, if_neg b8] at hm ⊢
            refine Ev.step (f := fun _ => some ((⟨(lowE (tailL (bare s).data.toList) e).toArray⟩ : ByteArray) ++ s.extract (bare s).size s.size)) (fun k => ?_) (Ev.pure _)
            rw [intern_Key.j0, if_neg (by simp), p_bare s hs, Option.bind_some, if_pos (by omega), if_pos (by omega), if_pos b2, if_pos b4, if_neg b8]
            have ht : strings_TrimRight.f (bare s) (⟨#[9, 11, 12, 13, 32]⟩ : ByteArray) = some ⟨(tailL (bare s).data.toList).toArray⟩ := by
              unfold strings_TrimRight.f
              rw [if_pos ⟨by omega, by decide, by decide⟩]
              rfl
            rw [ht, Option.bind_some]
            exact low_p _ e _ (hd _ hm)
        · rw [if_pos b2, if_neg b4] at hm ⊢
          refine Ev.step (f := fun k => (intern_amount.f k (bare s)).bind fun t => (if (Go.bits .and .i64 e 1) = 0 then (if t.size + (s.extract (bare s).size s.size).size ≤ 9223372036854775807 then (some (t ++ (s.extract (bare s).size s.size))) else (none)) else ((intern_lower.f t).bind fun t119 => (if t119.size + (s.extract (bare s).size s.size).size ≤ 9223372036854775807 then (some (t119 ++ (s.extract (bare s).size s.size))) else (none))))) (fun k => ?_) ?_
          · rw [intern_Key.j0, if_neg (by simp), p_bare s hs, Option.bind_some, if_pos (by omega), if_pos (by omega), if_pos b2, if_neg b4]
          · exact Ev.bind (amount_at (bare s) (by omega)) (Ev.same (fun _ => low_p _ e _ (hd _ hm)) (Ev.pure _))
      · rw [if_neg b2] at hm ⊢
        refine Ev.step (f := fun k => (intern_without.f k (bare s)).bind fun t => (if (Go.bits .and .i64 e 1) = 0 then (if t.size + (s.extract (bare s).size s.size).size ≤ 9223372036854775807 then (some (t ++ (s.extract (bare s).size s.size))) else (none)) else ((intern_lower.f t).bind fun t119 => (if t119.size + (s.extract (bare s).size s.size).size ≤ 9223372036854775807 then (some (t119 ++ (s.extract (bare s).size s.size))) else (none))))) (fun k => ?_) ?_
        · rw [intern_Key.j0, if_neg (by simp), p_bare s hs, Option.bind_some, if_pos (by omega), if_pos (by omega), if_neg b2]
        · exact Ev.bind (without_at (bare s) (by omega)) (Ev.same (fun _ => low_p _ e _ (hd _ hm)) (Ev.pure _))
theorem bits_all : ∀ n : Fin 16, (decide (Go.bits .and .i64 (n.val : Int) 2 = 0) = !decide (Int.tmod (wrap64 (Int.tdiv (n.val : Int) 2)) 2 = 1)) ∧ (decide (Go.bits .and .i64 (n.val : Int) 4 = 0) = !decide (Int.tmod (wrap64 (Int.tdiv (n.val : Int) 4)) 2 = 1)) ∧ (decide (Go.bits .and .i64 (n.val : Int) 8 = 0) = !decide (Int.tmod (wrap64 (Int.tdiv (n.val : Int) 8)) 2 = 1)) ∧ (decide (Go.bits .and .i64 (n.val : Int) 1 = 0) = !decide (Int.tmod (n.val : Int) 2 = 1)) := by decide +kernel
theorem dec_iff {p q : Prop} [Decidable p] [Decidable q] (h : decide p = !decide q) : p ↔ ¬ q := by
  by_cases hq : q
  · rw [decide_eq_true hq] at h
    exact ⟨fun hp => (by rw [decide_eq_true hp] at h; cases h), fun hn => absurd hq hn⟩
  · rw [decide_eq_false hq] at h
    exact ⟨fun _ => hq, fun _ => of_decide_eq_true h⟩
theorem bits_at (e : Int) (h0 : 0 ≤ e) (h1 : e ≤ 15) : (Go.bits .and .i64 e 2 = 0 ↔ ¬ Int.tmod (wrap64 (Int.tdiv e 2)) 2 = 1) ∧ (Go.bits .and .i64 e 4 = 0 ↔ ¬ Int.tmod (wrap64 (Int.tdiv e 4)) 2 = 1) ∧ (Go.bits .and .i64 e 8 = 0 ↔ ¬ Int.tmod (wrap64 (Int.tdiv e 8)) 2 = 1) ∧ (Go.bits .and .i64 e 1 = 0 ↔ ¬ Int.tmod e 2 = 1) := by
  have := bits_all ⟨e.toNat, by omega⟩
  simp only [Int.toNat_of_nonneg h0] at this
  exact ⟨dec_iff this.1, dec_iff this.2.1, dec_iff this.2.2.1, dec_iff this.2.2.2⟩
theorem lowB_int (b : UInt8) : ((lowB b).toNat : Int) = if (b.toNat : Int) ≥ 65 then (if (b.toNat : Int) ≤ 90 then ((b.toNat : Int) + 32) % 256 else (b.toNat : Int)) else (b.toNat : Int) := by
  unfold lowB
  by_cases h1 : 65 ≤ b.toNat
  · by_cases h2 : b.toNat ≤ 90
    · rw [if_pos ⟨h1, h2⟩, if_pos (by omega), if_pos (by omega), UInt8.toNat_add]
      have : (32 : UInt8).toNat = 32 := rfl
      omega
    · rw [if_neg (by omega), if_pos (by omega), if_neg (by omega)]
  · rw [if_neg (by omega), if_neg (by omega)]
theorem rlow_loop (s end_ : ByteArray) (hs : s.size ≤ 4000000000) (he : end_.size ≤ 4000000000) (d : Nat) : ∀ (i : Nat) (acc : List UInt8), i + d = s.size → acc.length = i →
    Ev (fun k => selvageref05_Key.l0 k s end_ (nums acc) (i : Int)) ((⟨(acc ++ (s.data.toList.drop i).map lowB).toArray⟩ : ByteArray) ++ end_) := by
  induction d with
  | zero =>
    intro i acc h ha
    rw [List.drop_of_length_le (by rw [data_len]; omega), List.map_nil, List.append_nil]
    refine Ev.step (f := fun _ => some ((⟨acc.toArray⟩ : ByteArray) ++ end_)) (fun k => ?_) (Ev.pure _)
    rw [selvageref05_Key.l0, if_neg (by omega), strOf, if_pos (by rw [mk_size]; omega)]
  | succ d ih =>
    intro i acc h ha
    have w1 : wrap64 ((i : Int) + 1) = ((i + 1 : Nat) : Int) := w_add i 1 (by omega)
    rw [drop_by s i (by omega), List.map_cons]
    obtain ⟨b, hb⟩ : ∃ b, b = s.data.toList.getD i 0 := ⟨_, rfl⟩
    have hbt : bt s (i : Int) = (b.toNat : Int) := by rw [bt_list, hb]
    rw [← hb, show acc ++ lowB b :: (s.data.toList.drop (i + 1)).map lowB = (acc ++ [lowB b]) ++ (s.data.toList.drop (i + 1)).map lowB by simp]
    refine Ev.step (fun k => ?_) (ih (i + 1) (acc ++ [lowB b]) (by omega) (by rw [List.length_append, List.length_singleton]; omega))
    rw [selvageref05_Key.l0, hbt, w1, if_pos (by omega), if_pos (by omega), ← nums_snoc, lowB_int]
    by_cases h1 : (b.toNat : Int) ≥ 65
    · by_cases h2 : (b.toNat : Int) ≤ 90
      · rw [if_pos h1, if_pos h2, nums_len, if_pos (by omega), if_pos h1, if_pos h2]
      · rw [if_pos h1, if_neg h2, nums_len, if_pos (by omega), if_pos h1, if_neg h2]
    · rw [if_neg h1, nums_len, if_pos (by omega), if_neg h1]
theorem r_j1 (l : List UInt8) (e : Int) (h0 : 0 ≤ e) (h1 : e ≤ 15) (end_ : ByteArray) (hl : l.length ≤ 4000000000) (he : end_.size ≤ 4000000000) : Ev (fun k => selvageref05_Key.j1 k e ⟨l.toArray⟩ end_) ((⟨(lowE l e).toArray⟩ : ByteArray) ++ end_) := by
  obtain ⟨_, _, _, b1⟩ := bits_at e h0 h1
  unfold lowE
  by_cases c : (Go.bits .and .i64 e 1) = 0
  · rw [if_pos c]
    refine Ev.step (f := fun _ => some ((⟨l.toArray⟩ : ByteArray) ++ end_)) (fun k => ?_) (Ev.pure _)
    rw [selvageref05_Key.j1, if_neg (b1.mp c), if_pos (by rw [mk_size]; omega)]
  · rw [if_neg c]
    have := rlow_loop ⟨l.toArray⟩ end_ (by rw [mk_size]; exact hl) he l.length 0 [] (by rw [mk_size]; omega) rfl
    rw [List.drop_zero, List.nil_append, List.toList_toArray] at this
    refine Ev.step (fun k => ?_) this
    rw [selvageref05_Key.j1, if_pos (by apply Classical.byContradiction; exact fun x => c (b1.mpr x))]
    rfl
theorem r_key (s : ByteArray) (e : Int) (hs : s.size ≤ 4000000000) : Ev (fun k => selvageref05_Key.f k s e) (keyS s e) := by
  have hb := bare_size s
  by_cases h0 : e < 0
  · have : keyS s e = s := by unfold keyS; rw [if_neg (by omega)]
    rw [this]
    refine Ev.same (G := fun k => selvageref05_Key.j0 k s e true) (fun k => by unfold selvageref05_Key.f; rw [if_pos h0]) ?_
    exact Ev.step (f := fun _ => some s) (fun k => by rw [selvageref05_Key.j0, if_pos rfl]) (Ev.pure _)
  · by_cases h1 : e > 15
    · have : keyS s e = s := by unfold keyS; rw [if_neg (by omega)]
      rw [this]
      refine Ev.same (G := fun k => selvageref05_Key.j0 k s e true) (fun k => by unfold selvageref05_Key.f; rw [if_neg h0, decide_eq_true h1]) ?_
      exact Ev.step (f := fun _ => some s) (fun k => by rw [selvageref05_Key.j0, if_pos rfl]) (Ev.pure _)
    · refine Ev.same (G := fun k => selvageref05_Key.j0 k s e false) (fun k => by unfold selvageref05_Key.f; rw [if_neg h0, decide_eq_false h1]) ?_
      obtain ⟨q2, q4, q8, _⟩ := bits_at e (by omega) (by omega)
      unfold keyS
      rw [if_pos (by omega)]
      have hsz : (s.extract (bare s).size s.size).size = s.size - (bare s).size := size_cut s _
      have hm := midL_len (bare s).data.toList e
      rw [data_len] at hm
      unfold midL at hm ⊢
      have j1 := fun (l : List UInt8) (hl : l.length ≤ (bare s).size) => r_j1 l e (by omega) (by omega) (s.extract (bare s).size s.size) (by omega) (by rw [hsz]; omega)
      by_cases b2 : (Go.bits .and .i64 e 2) = 0
      · by_cases b4 : (Go.bits .and .i64 e 4) = 0
        · by_cases b8 : (Go.bits .and .i64 e 8) = 0
          · rw [if_pos b2, if_pos b4, if_pos b8] at hm ⊢
            have := j1 _ hm
            rw [mk_data] at this
            refine Ev.step (fun k => ?_) this
            rw [selvageref05_Key.j0, if_neg (by simp), r_bare s hs, Option.bind_some, if_pos (by omega), if_pos (by omega), if_neg (q2.mp b2), if_neg (q4.mp b4), if_neg (q8.mp b8)]
          · rw [if_pos b2, if_pos b4, if_neg b8] at hm ⊢
            refine Ev.step (f := fun k => (selvageref05_tail.f k (bare s)).bind fun t => selvageref05_Key.j1 k e t (s.extract (bare s).size s.size)) (fun k => ?_) (Ev.bind (tail_at _ (bare s) rfl (by omega)) (j1 _ hm))
            rw [selvageref05_Key.j0, if_neg (by simp), r_bare s hs, Option.bind_some, if_pos (by omega), if_pos (by omega), if_neg (q2.mp b2), if_neg (q4.mp b4), if_pos (by apply Classical.byContradiction; exact fun x => b8 (q8.mpr x))]
        · rw [if_pos b2, if_neg b4] at hm ⊢
          have hr := runs_yes (bare s) (by omega) (bare s).size 0 [] (by omega) (by simp)
          rw [List.drop_zero, List.nil_append, show prevB (bare s) 0 = false from rfl] at hr
          have ht := tail_at (runsT false (bare s).data.toList).length ⟨(runsT false (bare s).data.toList).toArray⟩ rfl
          rw [List.toList_toArray, ← (amt_runs _).1] at ht
          have hlr : (runsT false (bare s).data.toList).length ≤ (bare s).size := by
            rw [← data_len]
            have : ∀ (l : List UInt8) (p : Bool), (runsT p l).length ≤ l.length := by
              intro l
              induction l with
              | nil => intro p; simp [runsT]
              | cons a t ih =>
                intro p
                have i1 := ih true
                have i2 := ih false
                unfold runsT
                split
                · split <;> simp <;> omega
                · simp; omega
            exact this _ _
          refine Ev.step (f := fun k => (selvageref05_runs.f k (bare s) true).bind fun r => (selvageref05_tail.f k r).bind fun t => selvageref05_Key.j1 k e t (s.extract (bare s).size s.size)) (fun k => ?_) (Ev.bind hr (Ev.bind (ht (by show (runsT false (bare s).data.toList).length ≤ _; omega)) (j1 _ hm)))
          rw [selvageref05_Key.j0, if_neg (by simp), r_bare s hs, Option.bind_some, if_pos (by omega), if_pos (by omega), if_neg (q2.mp b2), if_pos (by apply Classical.byContradiction; exact fun x => b4 (q4.mpr x))]
      · rw [if_neg b2] at hm ⊢
        have hr := runs_no (bare s) (by omega) (bare s).size 0 [] (by omega) (by simp)
        rw [List.drop_zero, List.nil_append] at hr
        refine Ev.step (f := fun k => (selvageref05_runs.f k (bare s) false).bind fun t => selvageref05_Key.j1 k e t (s.extract (bare s).size s.size)) (fun k => ?_) (Ev.bind hr (j1 _ hm))
        rw [selvageref05_Key.j0, if_neg (by simp), r_bare s hs, Option.bind_some, if_pos (by omega), if_pos (by omega), if_pos (by apply Classical.byContradiction; exact fun x => b2 (q2.mpr x))]
theorem p_blank (s : ByteArray) (hs : s.size ≤ 4000000000) : intern_Blank.f s = some (tailL (bare s).data.toList == []) := by
  unfold intern_Blank.f
  have hb := bare_size s
  rw [p_bare s hs, Option.bind_some]
  unfold strings_Trim.f
  rw [if_pos ⟨by omega, by decide, by decide⟩, Option.bind_some, Lib.toList_data]
  show some (Lib.trimLeftS (tailL (bare s).data.toList) [9, 11, 12, 13, 32] == []) = _
  congr 1
  unfold Lib.trimLeftS tailL
  generalize hx : (bare s).data.toList.reverse.dropWhile isB = x
  cases x with
  | nil => rfl
  | cons a t =>
    have ha : isB a = false := by
      have := List.head?_dropWhile_not isB (bare s).data.toList.reverse
      rw [hx] at this
      simpa using this
    have h1 : a ∈ ((a :: t).reverse.dropWhile fun b => ([9, 11, 12, 13, 32] : List UInt8).contains b) := by
      have key : ∀ (l : List UInt8), a ∈ l → a ∈ l.dropWhile isB := by
        intro l
        induction l with
        | nil => intro h; cases h
        | cons y r ih =>
          intro h
          rw [List.dropWhile_cons]
          split
          · rename_i hy
            rcases List.mem_cons.mp h with rfl | h
            · rw [ha] at hy; cases hy
            · exact ih h
          · exact h
      exact key _ (by simp)
    rw [beq_eq_false_iff_ne.mpr (List.ne_nil_of_mem h1), beq_eq_false_iff_ne.mpr (by simp)]
theorem r_blank (s : ByteArray) (hs : s.size ≤ 4000000000) : Ev (fun k => selvageref05_Blank.f k s) (tailL (bare s).data.toList == []) := by
  have hb := bare_size s
  have h1 := tail_at (bare s).size (bare s) rfl (by omega)
  have h1' : Ev (fun k => selvageref05_tail.f k (bare s)) _ := h1
  refine Ev.same (fun k => by unfold selvageref05_Blank.f; rw [r_bare s hs, Option.bind_some]) (Ev.bind h1' (Ev.same (G := fun _ => some (tailL (bare s).data.toList == [])) (fun _ => ?_) (Ev.pure _)))
  rw [Lib.toList_data]
theorem sure_true : selvagelaw05_sure.f 60 = some true := by decide +kernel
theorem ev_sure : Ev (fun k => selvagelaw05_sure.f k) true := Ev.of selvagelaw05_sure.mono sure_true
theorem InternKeys : ∀ (a0 : ByteArray) (a1 : Int), (Lit.int .i64 a1).wf = true → (a0.size + 1) + 1 ≤ 1048576 → ∃ k, selvagelaw05_InternKeys.f k a0 a1 = some true := by
  intro a0 a1 _ hb
  refine Ev.get (F := fun k => selvagelaw05_InternKeys.f k a0 a1) (Ev.bind (p_key a0 a1 (by omega)) (Ev.bind (r_key a0 a1 (by omega)) (Ev.same (G := fun k => (selvageref05_Blank.f k a0).bind fun t187 => (if ((tailL (bare a0).data.toList == []) == t187) = true then ((selvagelaw05_sure.f k).bind fun t188 => (some t188)) else (some false))) (fun k => ?_) (Ev.bind (r_blank a0 (by omega)) (Ev.same (G := fun k => (selvagelaw05_sure.f k).bind fun t188 => (some t188)) (fun k => ?_) (Ev.bind ev_sure (Ev.pure _)))))))
  · rw [if_pos rfl, p_blank a0 (by omega), Option.bind_some]
  · rw [if_pos (by simp)]
end Go.Proofs.YtpfhgaaphaalgaaDoor.Pure
