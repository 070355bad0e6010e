/-
  journal, in plain Lean: what the reference's Decode answers; that it is what the program's does.
-/
import Derived.Test.YtfempodohmhhlaaDoorPureK
namespace Go.Proofs.YtfempodohmhhlaaDoor.Pure
open Go.RowKit Go.Proofs.YtfempodohmhhlaaDoor.Pp Go.Proofs.YtfempodohmhhlaaDoor.Ext Go.Proofs.YtfempodohmhhlaaDoorW.PrintWords Go.Proofs.YtfempodohmhhlaaDoorW.PrintLast
def splL : List UInt8 → List UInt8 → List (List UInt8)
  | [], cur => if cur = [] then [] else [cur]
  | x :: t, cur => if x = 10 then (cur ++ [10]) :: splL t [] else splL t (cur ++ [x])
def mkB (l : List UInt8) : ByteArray := ⟨l.toArray⟩
theorem mkB_data (l : List UInt8) : (mkB l).data.toList = l := by simp [mkB]
theorem splL_flat : ∀ l cur : List UInt8, (splL l cur).flatten = cur ++ l
  | [], cur => by
    unfold splL
    by_cases h : cur = []
    · rw [if_pos h, h]; rfl
    · rw [if_neg h]; simp
  | x :: t, cur => by
    unfold splL
    by_cases h : x = 10
    · rw [if_pos h, List.flatten_cons, splL_flat t [], h]; simp
    · rw [if_neg h, splL_flat t]; simp
theorem splL_line : ∀ (l m cur : List UInt8), (∀ x ∈ l, x ≠ 10) → splL (l ++ 10 :: m) cur = (cur ++ l ++ [10]) :: splL m []
  | [], m, cur, _ => by
    rw [List.nil_append]
    conv => lhs; unfold splL
    rw [if_pos rfl, List.append_nil]
  | x :: l, m, cur, h => by
    have hx : ¬ x = 10 := h x (by simp)
    rw [List.cons_append]
    conv => lhs; unfold splL
    rw [if_neg hx, splL_line l m _ (fun y hy => h y (by simp [hy]))]
    simp
theorem split_loop (s : ByteArray) (hn : s.size ≤ 4000000000) (d : Nat) : ∀ (k i a : Nat) (acc : List ByteArray), i + d = s.size → a ≤ i → acc.length ≤ i → d < k →
    selvageref01_Split.l0 k s acc (a : Int) (i : Int) = some (acc ++ (splL (s.data.toList.drop i) ((s.data.toList.take i).drop a)).map mkB) := by
  have hdl : s.data.toList.length = s.size := data_length s
  induction d with
  | zero =>
    intro k i a acc hd ha hacc hk
    obtain ⟨k, rfl⟩ : ∃ m, k = m + 1 := ⟨k - 1, by omega⟩
    simp only [selvageref01_Split.l0, Int.toNat_natCast]
    rw [if_neg (by omega), List.drop_of_length_le (i := i) (by omega), List.take_of_length_le (i := i) (by omega)]
    unfold splL
    by_cases h : a < s.size
    · rw [if_pos (by omega), if_pos (by omega), if_pos (by omega), if_pos (by omega), if_neg (by
        intro e
        have := congrArg List.length e
        rw [List.length_drop] at this
        simp at this
        omega)]
      have e : s.extract a s.size = mkB (s.data.toList.drop a) := by
        apply ba_ext
        rw [Lib.extract_data, mkB_data, List.take_of_length_le (by rw [List.length_drop]; omega)]
      rw [e]; rfl
    · rw [if_neg (by omega), if_pos (List.drop_of_length_le (by omega))]
      simp
  | succ d ih =>
    intro k i a acc hd ha hacc hk
    obtain ⟨k, rfl⟩ : ∃ m, k = m + 1 := ⟨k - 1, by omega⟩
    have w1 : wrap64 ((i : Int) + 1) = ((i + 1 : Nat) : Int) := w_add i 1 (by omega)
    obtain ⟨b, hb, hv⟩ := bt_get s i (by omega)
    have hcur : (s.data.toList.take (i + 1)).drop a = (s.data.toList.take i).drop a ++ [b] := by
      have h1 : s.data.toList.take (i + 1) = s.data.toList.take i ++ [b] := by
        rw [List.take_succ_eq_append_getElem (by omega)]
        congr 1
        have := congrArg List.head? hb
        rw [List.head?_drop, List.getElem?_eq_getElem (by omega)] at this
        simpa using this
      rw [h1, List.drop_append_of_le_length (by rw [List.length_take]; omega)]
    simp only [selvageref01_Split.l0, w1, hv, Int.toNat_natCast]
    rw [if_pos (by omega), if_pos (by omega), hb]
    conv => rhs; unfold splL
    by_cases h : b = 10
    · have hbi : (b.toNat : Int) = 10 := by rw [h]; rfl
      rw [if_pos hbi, if_pos (by omega), if_pos (by omega), if_pos (by omega), if_pos (by omega), if_pos h, ih k (i + 1) (i + 1) _ (by omega) (by omega) (by simp; omega) (by omega)]
      have e : s.extract a (i + 1) = mkB ((s.data.toList.take i).drop a ++ [10]) := by
        apply ba_ext
        rw [Lib.extract_data, mkB_data, ← h, ← hcur, List.drop_take]
      have e2 : (s.data.toList.take (i + 1)).drop (i + 1) = [] := List.drop_of_length_le (by rw [List.length_take]; omega)
      rw [e, e2]
      simp
    · have hbi : ¬ (b.toNat : Int) = 10 := fun e => h (UInt8.toNat_inj.mp (by have : (10 : UInt8).toNat = 10 := rfl; omega))
      rw [if_neg hbi, if_neg h, ih k (i + 1) a acc (by omega) (by omega) (by omega) (by omega), hcur]
theorem split_at01 (s : ByteArray) (hn : s.size ≤ 4000000000) {k : Nat} (hk : s.size < k) : selvageref01_Split.f k s = some ((splL s.data.toList []).map mkB) := by
  have := split_loop s hn s.size k 0 0 [] (by omega) (by omega) (by simp) hk
  unfold selvageref01_Split.f
  simpa using this
def StepR (x : ByteArray) (r : Int × ByteArray × ByteArray × Bool) : Prop := r.2.2.2 = true → stepOk ⟨r.1, r.2.1, r.2.2.1⟩ = true ∧ lineOf ⟨r.1, r.2.1, r.2.2.1⟩ = x
theorem refend (x : ByteArray) (kind : Int) (p q : ByteArray) (hp : p.size + q.size ≤ 4000000000) {k : Nat} (hk : 2 * (p.size + q.size) + 20 ≤ k) :
    ((selvageref27_Valid.f k kind p q).bind fun t282 => (if t282 = 0 then ((selvageref27_line.f k kind p q).bind fun t283 => (some (kind, p, q, (t283.toList == x.toList)))) else (some (kind, p, q, false)))) = some (kind, p, q, stepOk ⟨kind, p, q⟩ && ((lineOf ⟨kind, p, q⟩).toList == x.toList)) := by
  rw [refvalid_at kind p q (by omega)]
  simp only [Option.bind_some]
  by_cases hv : stepOk ⟨kind, p, q⟩ = true
  · rw [if_pos hv, if_pos rfl]
    have := refline_at ⟨kind, p, q⟩ (by unfold wtS; simp only; omega) (k := k) (by unfold wtS; simp only; omega)
    simp only at this
    rw [this, hv]
    simp
  · rw [if_neg hv, if_neg (by decide)]
    simp only [Bool.not_eq_true] at hv
    rw [hv]; rfl
theorem stepR_end (x : ByteArray) (kind : Int) (p q : ByteArray) : StepR x (kind, p, q, stepOk ⟨kind, p, q⟩ && ((lineOf ⟨kind, p, q⟩).toList == x.toList)) := by
  intro h
  simp only [Bool.and_eq_true, beq_iff_eq] at h
  exact ⟨h.1, (toList_eq_iff _ _).mp h.2⟩
theorem stepR_false (x : ByteArray) (kind : Int) (p q : ByteArray) : StepR x (kind, p, q, false) := fun h => by simp at h
theorem refj1_total (x rest : ByteArray) (e : Int) (flag : Bool) (kind : Int) (p q : ByteArray) (hf : flag = true → 1 ≤ rest.size) (hs : p.size + q.size + rest.size ≤ 2000000000) {k : Nat} (hk : 2 * (p.size + q.size + rest.size) + 30 ≤ k) :
    ∃ r, selvageref27_step.j1 (k + 1) x rest e flag kind p q = some r ∧ StepR x r := by
  simp only [selvageref27_step.j1]
  cases flag with
  | true =>
    rw [if_pos rfl, if_pos (by have := hf rfl; omega)]
    have hc := cut_size rest 1
    have hq := unq_name_size (rest.extract 1 rest.size)
    rw [refunquote_at _ (by omega) (by omega)]
    simp only [Option.bind_some]
    by_cases h0 : errNum (unq (rest.extract 1 rest.size)).2.2 = 0
    · rw [if_pos h0]
      by_cases h1 : (unq (rest.extract 1 rest.size)).2.1.toList = ([10] : List UInt8)
      · rw [if_pos h1, refend x kind p _ (by omega) (by omega)]
        exact ⟨_, rfl, stepR_end _ _ _ _⟩
      · rw [if_neg h1]; exact ⟨_, rfl, stepR_false _ _ _ _⟩
    · rw [if_neg h0]; exact ⟨_, rfl, stepR_false _ _ _ _⟩
  | false =>
    rw [if_neg (by decide)]
    by_cases h0 : e = 0
    · rw [if_pos h0]
      by_cases h1 : rest.toList = ([10] : List UInt8)
      · rw [if_pos h1, refend x kind p q (by omega) (by omega)]
        exact ⟨_, rfl, stepR_end _ _ _ _⟩
      · rw [if_neg h1]; exact ⟨_, rfl, stepR_false _ _ _ _⟩
    · rw [if_neg h0]; exact ⟨_, rfl, stepR_false _ _ _ _⟩
theorem refin_total (x y : ByteArray) (kind : Int) (hs : y.size ≤ 900000000) {k : Nat} (hk : 2 * y.size + 40 ≤ k) :
    ∃ r, ((selvageref02_Unquote.f (k + 1) y).bind fun bt276 => (if bt276.2.2 = 0 then (if kind = 1 then (if bt276.2.1.toList = ([] : List UInt8) then (selvageref27_step.j1 (k + 1) x bt276.2.1 bt276.2.2 false kind bt276.1 (⟨#[]⟩ : ByteArray)) else (if 0 < (bt276.2.1.size : Int) then (selvageref27_step.j1 (k + 1) x bt276.2.1 bt276.2.2 ((bt bt276.2.1 0) == 9) kind bt276.1 (⟨#[]⟩ : ByteArray)) else (none))) else (selvageref27_step.j1 (k + 1) x bt276.2.1 bt276.2.2 false kind bt276.1 (⟨#[]⟩ : ByteArray))) else (selvageref27_step.j1 (k + 1) x bt276.2.1 bt276.2.2 false kind bt276.1 (⟨#[]⟩ : ByteArray)))) = some r ∧ StepR x r := by
  have hq := unq_name_size y
  have e0 : (⟨#[]⟩ : ByteArray).size = 0 := rfl
  rw [refunquote_at _ (by omega) (by omega)]
  simp only [Option.bind_some]
  have J := fun flag hf => refj1_total x (unq y).2.1 (errNum (unq y).2.2) flag kind (unq y).1 ⟨#[]⟩ hf (by omega) (k := k) (by omega)
  split
  · split
    · split
      · exact J false (fun h => by simp at h)
      · rename_i h
        have : ¬ (unq y).2.1.size = 0 := fun e => h ((toList_nil _).mpr e)
        rw [if_pos (by omega)]
        exact J _ (fun _ => by omega)
    · exact J false (fun h => by simp at h)
  · exact J false (fun h => by simp at h)
theorem refstep_total (x : ByteArray) (hx : x.size ≤ 900000000) {k : Nat} (hk : 2 * x.size + 50 ≤ k) : ∃ r, selvageref27_step.f k x = some r ∧ StepR x r := by
  obtain ⟨k, rfl⟩ : ∃ m, k = m + 5 := ⟨k - 5, by omega⟩
  unfold selvageref27_step.f
  have w1 : wrap64 (0 + 1) = 1 := by unfold wrap64; decide
  have w2 : wrap64 (1 + 1) = 2 := by unfold wrap64; decide
  have w3 : wrap64 (2 + 1) = 3 := by unfold wrap64; decide
  have hl : (([wRen, wRem, wPru] : List ByteArray).length : Int) = 3 := rfl
  have hd : ([(⟨#[114, 101, 110, 97, 109, 101, 32]⟩ : ByteArray), (⟨#[114, 101, 109, 111, 118, 101, 32]⟩ : ByteArray), (⟨#[112, 114, 117, 110, 101, 32]⟩ : ByteArray)] : List ByteArray) = [wRen, wRem, wPru] := rfl
  have r1 : rdOf ByteArray.empty [wRen, wRem, wPru] 0 = wRen := rfl
  have r2 : rdOf ByteArray.empty [wRen, wRem, wPru] 1 = wRem := rfl
  have r3 : rdOf ByteArray.empty [wRen, wRem, wPru] 2 = wPru := rfl
  have c7 := cut_size x 7
  have c6 := cut_size x 6
  rw [hd]
  rw [selvageref27_step.l0, hl, w1, if_pos (by decide), if_pos (by decide), r1, behind_at]
  simp only [Option.bind_some]
  by_cases h1 : hasP x wRen = true
  · rw [if_pos h1]
    simp only [if_true]
    exact refin_total x (x.extract 7 x.size) 1 (by omega) (by omega)
  · rw [if_neg h1]
    simp only [Bool.false_eq_true, if_false]
    rw [selvageref27_step.l0, hl, w2, if_pos (by decide), if_pos (by decide), r2, behind_at]
    simp only [Option.bind_some]
    by_cases h2 : hasP x wRem = true
    · rw [if_pos h2]
      simp only [if_true]
      exact refin_total x (x.extract 7 x.size) 2 (by omega) (by omega)
    · rw [if_neg h2]
      simp only [Bool.false_eq_true, if_false]
      rw [selvageref27_step.l0, hl, w3, if_pos (by decide), if_pos (by decide), r3, behind_at]
      simp only [Option.bind_some]
      by_cases h3 : hasP x wPru = true
      · rw [if_pos h3]
        simp only [if_true]
        exact refin_total x (x.extract 6 x.size) 3 (by omega) (by omega)
      · rw [if_neg h3]
        simp only [Bool.false_eq_true, if_false]
        rw [selvageref27_step.l0, hl, if_neg (by decide)]
        exact ⟨_, rfl, stepR_false _ _ _ _⟩
theorem refj1_line (s : S32) (h : stepOk s = true) (flag : Bool) (q rest : ByteArray) (hq : if flag = true then (∃ z, rest = bTab ++ (shown s.f2 ++ bNl) ∧ z = q) else (rest = bNl ∧ q = s.f2)) (hs : wtS s ≤ 400000000) {k : Nat} (hk : 10 * wtS s + 100 ≤ k) :
    selvageref27_step.j1 (k + 1) (lineOf s) rest 0 flag s.f0 s.f1 q = some (s.f0, s.f1, s.f2, true) := by
  unfold wtS at hs hk
  have hsz := shown_size s.f2
  have e1 : bTab.size = 1 := rfl
  have e2 : bNl.size = 1 := rfl
  have hE := refend (lineOf s) s.f0 s.f1 s.f2 (by omega) (k := k) (by omega)
  have hv : stepOk ⟨s.f0, s.f1, s.f2⟩ = true := h
  rw [hv, show (lineOf ⟨s.f0, s.f1, s.f2⟩).toList == (lineOf s).toList from beq_self_eq_true _] at hE
  simp only [selvageref27_step.j1]
  cases flag with
  | true =>
    rw [if_pos rfl] at hq
    obtain ⟨_, rfl, _⟩ := hq
    rw [if_pos rfl, if_pos (by rw [ByteArray.size_append]; omega), show (1 : Nat) = bTab.size from rfl, cut_app, refunquote_at _ (by rw [ByteArray.size_append]; omega) (by rw [ByteArray.size_append]; omega), unq_shown_r _ _ (.inr (.inr (by rfl)))]
    simp only [Option.bind_some]
    rw [if_pos (show errNum (none : Option Int) = 0 from rfl), if_pos (show bNl.toList = ([10] : List UInt8) by rw [Lib.toList_data]; rfl)]
    exact hE
  | false =>
    rw [if_neg (by decide)] at hq
    obtain ⟨rfl, rfl⟩ := hq
    rw [if_neg (by decide), if_pos trivial, if_pos (show bNl.toList = ([10] : List UInt8) by rw [Lib.toList_data]; rfl)]
    exact hE
theorem refstep_line (s : S32) (h : stepOk s = true) (hs : wtS s ≤ 200000000) {k : Nat} (hk : 20 * wtS s + 200 ≤ k) : selvageref27_step.f k (lineOf s) = some (s.f0, s.f1, s.f2, true) := by
  obtain ⟨k, rfl⟩ : ∃ m, k = m + 5 := ⟨k - 5, by omega⟩
  unfold selvageref27_step.f
  have w1 : wrap64 (0 + 1) = 1 := by unfold wrap64; decide
  have w2 : wrap64 (1 + 1) = 2 := by unfold wrap64; decide
  have w3 : wrap64 (2 + 1) = 3 := by unfold wrap64; decide
  have hl : (([wRen, wRem, wPru] : List ByteArray).length : Int) = 3 := rfl
  have hd : ([(⟨#[114, 101, 110, 97, 109, 101, 32]⟩ : ByteArray), (⟨#[114, 101, 109, 111, 118, 101, 32]⟩ : ByteArray), (⟨#[112, 114, 117, 110, 101, 32]⟩ : ByteArray)] : List ByteArray) = [wRen, wRem, wPru] := rfl
  have r1 : rdOf ByteArray.empty [wRen, wRem, wPru] 0 = wRen := rfl
  have r2 : rdOf ByteArray.empty [wRen, wRem, wPru] 1 = wRem := rfl
  have r3 : rdOf ByteArray.empty [wRen, wRem, wPru] 2 = wPru := rfl
  have hq1 := shown_size s.f1
  have hq2 := shown_size s.f2
  have e1 : bTab.size = 1 := rfl
  have e2 : bNl.size = 1 := rfl
  have hw : wtS s = s.f1.size + s.f2.size := rfl
  rw [hd]
  rcases stepOk_kind h with h1 | ⟨h1, hf2⟩
  · have hx : lineOf s = wRen ++ (shown s.f1 ++ (bTab ++ (shown s.f2 ++ bNl))) := by
      unfold lineOf lineB
      rw [if_pos h1]
      simp only [app_assoc]
    have hJ := refj1_line s h true ⟨#[]⟩ (bTab ++ (shown s.f2 ++ bNl)) (by rw [if_pos rfl]; exact ⟨_, rfl, rfl⟩) (by omega) (k := k + 3) (by omega)
    rw [selvageref27_step.l0, hl, w1, if_pos (by decide), if_pos (by decide), r1, behind_at, if_pos (by rw [hx]; exact hasP_app _ _)]
    simp only [Option.bind_some, if_true]
    have hcut : (lineOf s).extract wRen.size (lineOf s).size = shown s.f1 ++ (bTab ++ (shown s.f2 ++ bNl)) := by rw [hx]; exact cut_app _ _
    rw [hcut, refunquote_at _ (by simp only [ByteArray.size_append]; omega) (by simp only [ByteArray.size_append]; omega), unq_shown_r _ _ (.inr (.inl (by rw [show (0 : Int) = ((0 : Nat) : Int) from rfl, bt_append_left _ _ 0 (by decide)]; rfl)))]
    simp only [Option.bind_some]
    have hb : (bt (bTab ++ (shown s.f2 ++ bNl)) 0 == 9) = true := by rw [show (0 : Int) = ((0 : Nat) : Int) from rfl, bt_append_left _ _ 0 (by decide)]; rfl
    have hne : ¬ (bTab ++ (shown s.f2 ++ bNl)).toList = ([] : List UInt8) := fun e => by
      have := (toList_nil _).mp e
      rw [ByteArray.size_append] at this
      omega
    rw [if_pos (show errNum (none : Option Int) = 0 from rfl), if_neg hne, if_pos (by rw [ByteArray.size_append]; omega), hb]
    rw [h1] at hJ ⊢
    exact hJ
  · have hJ := fun (k : Nat) (hk : 10 * wtS s + 100 ≤ k) => refj1_line s h false ⟨#[]⟩ bNl (by rw [if_neg (by decide)]; exact ⟨rfl, hf2.symm⟩) (by omega) (k := k) hk
    have hun : unq (shown s.f1 ++ bNl) = (s.f1, bNl, none) := unq_shown_r _ _ (.inr (.inr (by rfl)))
    have hf1 : ¬ s.f0 = 1 := by omega
    rcases h1 with h1 | h1
    · have hx : lineOf s = wRem ++ (shown s.f1 ++ bNl) := by
        unfold lineOf lineB
        rw [if_neg hf1, if_pos h1, app_assoc]
      have hn : ¬ hasP (lineOf s) wRen = true := by
        intro hp
        have := hasP_byte hp 2 (by decide)
        rw [hx, bt_append_left _ _ 2 (by decide)] at this
        exact absurd this (by decide)
      have hcut : (lineOf s).extract wRem.size (lineOf s).size = shown s.f1 ++ bNl := by rw [hx]; exact cut_app _ _
      rw [selvageref27_step.l0, hl, w1, if_pos (by decide), if_pos (by decide), r1, behind_at, if_neg hn]
      simp only [Option.bind_some, Bool.false_eq_true, if_false]
      rw [selvageref27_step.l0, hl, w2, if_pos (by decide), if_pos (by decide), r2, behind_at, if_pos (by rw [hx]; exact hasP_app _ _)]
      simp only [Option.bind_some, if_true]
      rw [hcut, refunquote_at _ (by simp only [ByteArray.size_append]; omega) (by simp only [ByteArray.size_append]; omega), hun]
      simp only [Option.bind_some]
      rw [if_pos (show errNum (none : Option Int) = 0 from rfl)]
      have hJ2 := hJ (k + 2) (by omega)
      rw [h1] at hJ2 ⊢
      exact hJ2
    · have hf22 : ¬ s.f0 = 2 := by omega
      have hx : lineOf s = wPru ++ (shown s.f1 ++ bNl) := by
        unfold lineOf lineB
        rw [if_neg hf1, if_neg hf22, app_assoc]
      have hn1 : ¬ hasP (lineOf s) wRen = true := by
        intro hp
        have := hasP_byte hp 0 (by decide)
        rw [hx, bt_append_left _ _ 0 (by decide)] at this
        exact absurd this (by decide)
      have hn2 : ¬ hasP (lineOf s) wRem = true := by
        intro hp
        have := hasP_byte hp 0 (by decide)
        rw [hx, bt_append_left _ _ 0 (by decide)] at this
        exact absurd this (by decide)
      have hcut : (lineOf s).extract wPru.size (lineOf s).size = shown s.f1 ++ bNl := by rw [hx]; exact cut_app _ _
      rw [selvageref27_step.l0, hl, w1, if_pos (by decide), if_pos (by decide), r1, behind_at, if_neg hn1]
      simp only [Option.bind_some, Bool.false_eq_true, if_false]
      rw [selvageref27_step.l0, hl, w2, if_pos (by decide), if_pos (by decide), r2, behind_at, if_neg hn2]
      simp only [Option.bind_some, Bool.false_eq_true, if_false]
      rw [selvageref27_step.l0, hl, w3, if_pos (by decide), if_pos (by decide), r3, behind_at, if_pos (by rw [hx]; exact hasP_app _ _)]
      simp only [Option.bind_some, if_true]
      rw [hcut, refunquote_at _ (by simp only [ByteArray.size_append]; omega) (by simp only [ByteArray.size_append]; omega), hun]
      simp only [Option.bind_some]
      rw [if_pos (show errNum (none : Option Int) = 0 from rfl)]
      have hJ2 := hJ (k + 1) (by omega)
      rw [h1] at hJ2 ⊢
      exact hJ2
end Go.Proofs.YtfempodohmhhlaaDoor.Pure
