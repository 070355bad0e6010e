/-
  journal, in plain Lean: Decode of the program and of the reference are one; the four laws.
-/
import Derived.Test.YtfempodohmhhlaaDoorPureL
import Derived.Test.YtfempodohmhhlaaDoorEKind
namespace Go.Proofs.YtfempodohmhhlaaDoor.Pure
open Go.RowKit Go.Proofs.YtfempodohmhhlaaDoor.Pp Go.Proofs.YtfempodohmhhlaaDoor.Ext Go.Proofs.YtfempodohmhhlaaDoorW.PrintWords Go.Proofs.YtfempodohmhhlaaDoorW.PrintLast
theorem step_eta (s : S32) : (⟨s.f0, s.f1, s.f2⟩ : S32) = s := rfl
theorem refdec_loop (L : List ByteArray) (W : Nat) (hW : ∀ x ∈ L, x.size ≤ W) (hW2 : W ≤ 900000000) (hL : L.length ≤ 2000000000) (d : Nat) : ∀ (k i : Nat) (acc : List S32), i + d + 1 = L.length → acc.length ≤ i → 2 * W + 60 + d ≤ k →
    ∃ r, selvageref27_Decode.l0 k L acc (i : Int) = some r ∧ (r = ([], 270) ∨ ∃ l, r = (acc ++ l, 0) ∧ l.all stepOk = true ∧ (L.drop i).take d = l.map lineOf) := by
  induction d with
  | zero =>
    intro k i acc hd ha hk
    obtain ⟨k, rfl⟩ : ∃ m, k = m + 1 := ⟨k - 1, by omega⟩
    simp only [selvageref27_Decode.l0]
    rw [w_sub L.length (by omega), if_neg (by omega)]
    exact ⟨_, rfl, .inr ⟨[], by simp, rfl, by simp⟩⟩
  | succ d ih =>
    intro k i acc hd ha hk
    obtain ⟨k, rfl⟩ : ∃ m, k = m + 1 := ⟨k - 1, by omega⟩
    have w1 : wrap64 ((i : Int) + 1) = ((i + 1 : Nat) : Int) := w_add i 1 (by omega)
    have hmem : (L.getD i ByteArray.empty).size ≤ W := by
      rw [List.getD_eq_getElem?_getD, List.getElem?_eq_getElem (by omega)]
      exact hW _ (List.getElem_mem _)
    simp only [selvageref27_Decode.l0, w1, rd_nat]
    rw [w_sub L.length (by omega), if_pos (by omega), if_pos (by omega), if_pos (by omega)]
    obtain ⟨r, hr, hR⟩ := refstep_total (L.getD i ByteArray.empty) (by omega) (k := k) (by omega)
    rw [hr]
    simp only [Option.bind_some]
    by_cases h : r.2.2.2 = true
    · obtain ⟨h1, h2⟩ := hR h
      rw [if_pos h, if_pos (by omega)]
      obtain ⟨q, hq, hQ⟩ := ih k (i + 1) (acc ++ [⟨r.1, r.2.1, r.2.2.1⟩]) (by omega) (by simp; omega) (by omega)
      refine ⟨q, hq, ?_⟩
      rcases hQ with hQ | ⟨l, e, e1, e2⟩
      · exact .inl hQ
      · refine .inr ⟨⟨r.1, r.2.1, r.2.2.1⟩ :: l, by rw [e]; simp, by simp [h1, e1], ?_⟩
        rw [drop_getD L ByteArray.empty i (by omega), List.take_succ_cons, e2, ← h2]
        rfl
    · rw [if_neg h]
      exact ⟨_, rfl, .inl rfl⟩
theorem body_data (l : List S32) : (bodyOf l).data.toList = ((l.map lineOf).map (fun x => x.data.toList)).flatten := by
  induction l with
  | nil => rfl
  | cons s l ih =>
    simp only [bodyOf, app_data, ih, List.map_cons, List.flatten_cons]
theorem list_ends {α : Type} (L : List α) (d : α) (h : 2 ≤ L.length) : L = L.getD 0 d :: ((L.drop 1).take (L.length - 2) ++ [L.getD (L.length - 1) d]) := by
  apply List.ext_getElem?
  intro i
  rcases i with _ | i
  · simp [List.getD_eq_getElem?_getD, List.getElem?_eq_getElem (show 0 < L.length by omega)]
  · rw [List.getElem?_cons_succ]
    rcases Nat.lt_trichotomy i (L.length - 2) with hi | hi | hi
    · rw [List.getElem?_append_left (by rw [List.length_take, List.length_drop]; omega), List.getElem?_take, if_pos hi, List.getElem?_drop, Nat.add_comm]
    · rw [List.getElem?_append_right (by rw [List.length_take, List.length_drop]; omega), List.length_take, List.length_drop]
      have e1 : i - min (L.length - 2) (L.length - 1) = 0 := by omega
      have e2 : i + 1 = L.length - 1 := by omega
      rw [e1, e2]
      simp [List.getD_eq_getElem?_getD, List.getElem?_eq_getElem (show L.length - 1 < L.length by omega)]
    · rw [List.getElem?_eq_none (by omega), List.getElem?_eq_none (by simp; omega)]
def RefR (b : ByteArray) (r : List S32 × Int) : Prop := r = ([], 270) ∨ ∃ l, r = (l, 0) ∧ l.all stepOk = true ∧ b = encHead ++ (bodyOf l ++ encTail)
theorem splL_sizes : ∀ (l cur : List UInt8), ∀ x ∈ splL l cur, x.length ≤ cur.length + l.length
  | [], cur => by
    unfold splL
    split
    · intro x hx; simp at hx
    · intro x hx
      rw [List.mem_singleton.mp hx]; simp
  | b :: t, cur => by
    unfold splL
    split
    · intro x hx
      rcases List.mem_cons.mp hx with rfl | hx
      · simp
      · have := splL_sizes t [] x hx
        simp at this ⊢; omega
    · intro x hx
      have := splL_sizes t (cur ++ [b]) x hx
      simp at this ⊢; omega
theorem splL_length : ∀ (l cur : List UInt8), (splL l cur).length ≤ l.length + 1
  | [], cur => by
    unfold splL
    split <;> simp
  | b :: t, cur => by
    unfold splL
    split
    · have := splL_length t []
      simp; omega
    · have := splL_length t (cur ++ [b])
      simp; omega
theorem refdec_total (b : ByteArray) (hb : b.size ≤ 4000000) {k : Nat} (hk : 3 * b.size + 100 ≤ k) : ∃ r, selvageref27_Decode.f k b = some r ∧ RefR b r := by
  obtain ⟨k, rfl⟩ : ∃ m, k = m + 1 := ⟨k - 1, by omega⟩
  have hlist : b.data.toList.length = b.size := data_length b
  unfold selvageref27_Decode.f
  rw [split_at01 b (by omega) (by omega)]
  simp only [Option.bind_some]
  obtain ⟨L, hLd⟩ : ∃ L, L = (splL b.data.toList []).map mkB := ⟨_, rfl⟩
  have hlen : L.length ≤ b.size + 1 := by
    have := splL_length b.data.toList []
    rw [hLd, List.length_map]; omega
  have hWs : ∀ x ∈ L, x.size ≤ b.size := by
    intro x hx
    rw [hLd] at hx
    obtain ⟨y, hy, rfl⟩ := List.mem_map.mp hx
    have := splL_sizes b.data.toList [] y hy
    rw [← data_length, mkB_data]
    simp at this; omega
  have hflat : (L.map (fun x => x.data.toList)).flatten = b.data.toList := by
    rw [hLd, List.map_map]
    have : ((fun x : ByteArray => x.data.toList) ∘ mkB) = id := by funext z; exact mkB_data z
    rw [this, List.map_id, splL_flat]; rfl
  rw [← hLd]
  clear hLd
  by_cases h2 : (L.length : Int) < 2
  · rw [if_pos h2]
    simp only [selvageref27_Decode.j0, if_true]
    exact ⟨_, rfl, .inl rfl⟩
  · have r0 : rdOf ByteArray.empty L 0 = L.getD 0 ByteArray.empty := rd_nat ByteArray.empty L 0
    have r1 : rdOf ByteArray.empty L ((L.length : Int) - 1) = L.getD (L.length - 1) ByteArray.empty := by
      have := rd_nat ByteArray.empty L (L.length - 1)
      rwa [show ((L.length - 1 : Nat) : Int) = (L.length : Int) - 1 by omega] at this
    rw [if_neg h2, if_pos (by omega), w_sub L.length (by omega), r0, r1]
    by_cases h3 : (L.getD 0 ByteArray.empty).toList = ([115, 101, 108, 118, 97, 103, 101, 32, 106, 111, 117, 114, 110, 97, 108, 32, 49, 10] : List UInt8)
    · rw [if_pos h3, if_pos (by omega), if_pos (by omega)]
      by_cases h4 : (L.getD (L.length - 1) ByteArray.empty).toList = ([101, 110, 100, 10] : List UInt8)
      · have h4b : ((L.getD (L.length - 1) ByteArray.empty).toList != ([101, 110, 100, 10] : List UInt8)) = false := bne_eq_false_iff_eq.mpr h4
        rw [h4b]
        simp only [selvageref27_Decode.j0, Bool.false_eq_true, if_false]
        obtain ⟨r, hr, hR⟩ := refdec_loop L b.size hWs (by omega) (by omega) (L.length - 2) k 1 [] (by omega) (by simp) (by omega)
        refine ⟨r, hr, ?_⟩
        rcases hR with hR | ⟨l, e, e1, e2⟩
        · exact .inl hR
        · refine .inr ⟨l, by rw [e]; rfl, e1, ?_⟩
          apply ba_ext
          have hL := list_ends L ByteArray.empty (by omega)
          rw [← hflat, hL, e2]
          rw [Lib.toList_data] at h3 h4
          simp only [List.map_cons, List.map_append, List.flatten_cons, List.flatten_append, List.map_nil, List.flatten_nil, List.append_nil, h3, h4, app_data, body_data]
          rfl
      · have h4b : ((L.getD (L.length - 1) ByteArray.empty).toList != ([101, 110, 100, 10] : List UInt8)) = true := bne_iff_ne.mpr h4
        rw [h4b]
        simp only [selvageref27_Decode.j0, if_true]
        exact ⟨_, rfl, .inl rfl⟩
    · rw [if_neg h3]
      simp only [selvageref27_Decode.j0, if_true]
      exact ⟨_, rfl, .inl rfl⟩
theorem refdec_back (L : List ByteArray) (hL : L.length ≤ 2000000000) : ∀ (l : List S32) (i k : Nat) (acc : List S32), l.all stepOk = true → i + l.length + 1 = L.length → acc.length ≤ i → (L.drop i).take l.length = l.map lineOf → room l ≤ 200000000 → 5 * room l + l.length + 300 ≤ k →
    selvageref27_Decode.l0 k L acc (i : Int) = some (acc ++ l, 0) := by
  intro l
  induction l with
  | nil =>
    intro i k acc ha hd hacc hm hr hk
    obtain ⟨k, rfl⟩ : ∃ m, k = m + 1 := ⟨k - 1, by omega⟩
    simp only [selvageref27_Decode.l0]
    rw [w_sub L.length (by omega), if_neg (by simp at hd; omega), List.append_nil]
  | cons s l ih =>
    intro i k acc ha hd hacc hm hr hk
    obtain ⟨k, rfl⟩ : ∃ m, k = m + 1 := ⟨k - 1, by omega⟩
    have w1 : wrap64 ((i : Int) + 1) = ((i + 1 : Nat) : Int) := w_add i 1 (by omega)
    simp only [List.all_cons, Bool.and_eq_true] at ha
    simp only [List.length_cons] at hd hk
    simp only [room] at hr hk
    rw [drop_getD L ByteArray.empty i (by omega), List.length_cons, List.take_succ_cons, List.map_cons, List.cons.injEq] at hm
    simp only [selvageref27_Decode.l0, w1, rd_nat]
    rw [w_sub L.length (by omega), if_pos (by omega), if_pos (by omega), if_pos (by omega), hm.1, refstep_line s ha.1 (by omega) (by omega)]
    simp only [Option.bind_some, if_true]
    rw [if_pos (by omega), step_eta, ih (i + 1) k (acc ++ [s]) ha.2 (by omega) (by simp; omega) hm.2 (by omega) (by omega)]
    simp
theorem splL_body : ∀ (l : List S32) (t : List UInt8), splL ((bodyOf l).data.toList ++ t) [] = (l.map lineOf).map (fun x => x.data.toList) ++ splL t []
  | [], t => by simp [bodyOf]
  | s :: l, t => by
    have e : (bodyOf (s :: l)).data.toList ++ t = (lineB s).data.toList ++ 10 :: ((bodyOf l).data.toList ++ t) := by
      show (((lineB s ++ bNl) ++ bodyOf l).data.toList) ++ t = _
      rw [app_data, app_data, show bNl.data.toList = [10] from rfl]
      simp
    rw [e, splL_line _ _ _ (noNl_line s), splL_body l t]
    have e2 : (lineOf s).data.toList = (lineB s).data.toList ++ [10] := by
      show ((lineB s ++ bNl).data.toList) = _
      rw [app_data]; rfl
    simp [e2]
theorem shown_ge (a : ByteArray) : a.size ≤ (shown a).size := by
  unfold shown
  split
  · have := quoted_long a a.size
    rw [quoted_size]; omega
  · exact Nat.le_refl _
theorem lineB_ge (s : S32) (h : stepOk s = true) : wtS s ≤ (lineB s).size := by
  have h1 := shown_ge s.f1
  have h2 := shown_ge s.f2
  have e0 : (⟨#[]⟩ : ByteArray).size = 0 := rfl
  unfold wtS lineB
  rcases stepOk_kind h with h3 | ⟨h3, h4⟩
  · rw [if_pos h3]; simp only [ByteArray.size_append]; omega
  · rw [if_neg (by omega), h4, e0]
    split
    · simp only [ByteArray.size_append]; omega
    · simp only [ByteArray.size_append]; omega
theorem room_body : ∀ l : List S32, l.all stepOk = true → room l ≤ 13 * (bodyOf l).size
  | [], _ => by simp [room]
  | s :: l, h => by
    simp only [List.all_cons, Bool.and_eq_true] at h
    have ih := room_body l h.2
    have hB := lineB_ge s h.1
    have hb : (bodyOf (s :: l)).size = (lineB s).size + 1 + (bodyOf l).size := by
      show ((lineB s ++ bNl) ++ bodyOf l).size = _
      rw [ByteArray.size_append, ByteArray.size_append]; rfl
    simp only [room]
    omega
theorem refdecode_back (l : List S32) (ha : l.all stepOk = true) (hb : (encHead ++ (bodyOf l ++ encTail)).size ≤ 4000000) {k : Nat} (hk : 100 * (encHead ++ (bodyOf l ++ encTail)).size + 400 ≤ k) : selvageref27_Decode.f k (encHead ++ (bodyOf l ++ encTail)) = some (l, 0) := by
  obtain ⟨k, rfl⟩ : ∃ m, k = m + 1 := ⟨k - 1, by omega⟩
  have hrb := room_body l ha
  have hrl := room_length l
  have hsz : (encHead ++ (bodyOf l ++ encTail)).size = 18 + ((bodyOf l).size + 4) := by rw [ByteArray.size_append, ByteArray.size_append]; rfl
  unfold selvageref27_Decode.f
  rw [split_at01 _ (by omega) (by omega)]
  simp only [Option.bind_some]
  have hsp : (splL (encHead ++ (bodyOf l ++ encTail)).data.toList []).map mkB = encHead :: (l.map lineOf ++ [encTail]) := by
    have e : (encHead ++ (bodyOf l ++ encTail)).data.toList = [115, 101, 108, 118, 97, 103, 101, 32, 106, 111, 117, 114, 110, 97, 108, 32, 49] ++ 10 :: ((bodyOf l).data.toList ++ encTail.data.toList) := by
      rw [app_data, app_data]; rfl
    have e2 : splL encTail.data.toList [] = [encTail.data.toList] := by
      show splL ([101, 110, 100] ++ 10 :: []) [] = _
      rw [splL_line _ _ _ (by decide)]
      rfl
    have e3 : ∀ x : ByteArray, mkB x.data.toList = x := fun x => ba_ext (mkB_data _)
    rw [e, splL_line _ _ _ (by decide), splL_body, e2, List.map_cons, List.map_append, List.map_map, List.map_cons, List.map_nil, e3]
    have e4 : (mkB ∘ fun x : ByteArray => x.data.toList) = id := by funext x; exact e3 x
    rw [e4, List.map_id]
    rfl
  rw [hsp]
  have hlen : (encHead :: (l.map lineOf ++ [encTail])).length = l.length + 2 := by simp
  have r0 : rdOf ByteArray.empty (encHead :: (l.map lineOf ++ [encTail])) 0 = encHead := rfl
  have r1 : rdOf ByteArray.empty (encHead :: (l.map lineOf ++ [encTail])) ((l.length + 1 : Nat) : Int) = encTail := by
    rw [rd_nat]
    simp [List.getD_eq_getElem?_getD]
  have hw : wrap64 (((encHead :: (l.map lineOf ++ [encTail])).length : Int) - 1) = ((l.length + 1 : Nat) : Int) := by
    rw [hlen, w_sub _ (by omega)]; omega
  rw [hw, r0, r1, if_neg (by rw [hlen]; omega), if_pos (by rw [hlen]; omega), if_pos (by rw [Lib.toList_data]; rfl), if_pos (by omega), if_pos (by rw [hlen]; omega)]
  have h4b : (encTail.toList != ([101, 110, 100, 10] : List UInt8)) = false := by rw [Lib.toList_data]; rfl
  rw [h4b]
  simp only [selvageref27_Decode.j0, Bool.false_eq_true, if_false]
  have := refdec_back (encHead :: (l.map lineOf ++ [encTail])) (by rw [hlen]; omega) l 1 k [] ha (by rw [hlen]; omega) (by simp) (by
    rw [List.drop_one, List.tail_cons]
    have : l.length = (l.map lineOf).length := by simp
    rw [this, List.take_left]) (by omega) (by omega)
  simpa using this
theorem decode_eq (b : ByteArray) (hb : b.size ≤ 1048576) {k : Nat} (hk : 100 * b.size + 1000 ≤ k) : ∃ r, journal_Decode.f k b = some r ∧ selvageref27_Decode.f k b = some (r.1, errNum r.2) ∧ DecR b r := by
  obtain ⟨r, hr, hR⟩ := decode_total b (by omega) (k := k) (by omega)
  refine ⟨r, hr, ?_, hR⟩
  rcases hR with rfl | ⟨l, rfl, h1, h2⟩
  · obtain ⟨q, hq, hQ⟩ := refdec_total b (by omega) (k := k) (by omega)
    rcases hQ with rfl | ⟨l, rfl, h1, h2⟩
    · exact hq
    · have hrb := room_body l h1
      have hrl := room_length l
      have hsz : b.size = 18 + ((bodyOf l).size + 4) := by rw [h2, ByteArray.size_append, ByteArray.size_append]; rfl
      have := decode_back l h1 (by omega) (k := k) (by omega)
      rw [← h2, hr] at this
      simp at this
  · subst h2
    exact refdecode_back l h1 (by omega) (by omega)
theorem same_loop (l : List S32) (hl : l.length ≤ 4000000000) (d : Nat) : ∀ (k i : Nat), i + d = l.length → d < k → selvagelaw27_same.l0 k l l (i : Int) = some true := by
  induction d with
  | zero =>
    intro k i hd hk
    obtain ⟨k, rfl⟩ : ∃ m, k = m + 1 := ⟨k - 1, by omega⟩
    simp only [selvagelaw27_same.l0]
    rw [if_neg (by omega)]
  | succ d ih =>
    intro k i hd hk
    obtain ⟨k, rfl⟩ : ∃ m, k = m + 1 := ⟨k - 1, by omega⟩
    have w1 : wrap64 ((i : Int) + 1) = ((i + 1 : Nat) : Int) := w_add i 1 (by omega)
    simp only [selvagelaw27_same.l0, w1, beq_self_eq_true]
    rw [if_pos (by omega), if_pos (by omega), if_pos (by omega), if_neg (by decide), ih k (i + 1) (by omega) (by omega)]
theorem same_self (l : List S32) (hl : l.length ≤ 4000000000) {k : Nat} (hk : l.length < k) : selvagelaw27_same.f k l l = some true := by
  unfold selvagelaw27_same.f
  rw [if_pos rfl]
  exact same_loop l hl l.length k 0 (by omega) hk
theorem num_at (e : Option Int) : selvagelaw27_num.f e = some (errNum e) := by
  unfold selvagelaw27_num.f
  rw [errNum_eq]
theorem sure_true : selvagelaw27_sure.f 200 = some true := by decide +kernel
theorem sure_at {k : Nat} (hk : 200 ≤ k) : selvagelaw27_sure.f k = some true := at_rounds selvagelaw27_sure.mono hk sure_true
theorem sum_room (l : List S32) : 13 * l.length ≤ room l ∧ room l ≤ 13 * (l.map wt32).sum := by
  refine ⟨room_length l, ?_⟩
  induction l with
  | nil => simp [room]
  | cons s l ih =>
    simp only [room, List.map_cons, List.sum_cons]
    have : 4 * wtS s + 13 ≤ 13 * wt32 s := by unfold wtS wt32; omega
    omega
theorem encodes_loop (l : List S32) (hr : room l ≤ 35184372080000) (hll : l.length ≤ 4000000000) (x3 x5 : ByteArray) (x4 : Option Int) (x6 : Int) (h1 : x3.toList = x5.toList) (h2 : errNum x4 = x6) (d : Nat) : ∀ (k i : Nat), i + d = l.length → 2 * d + room l + 300 ≤ k →
    selvagelaw27_JournalEncodes.l0 k l x3 x4 x5 x6 (i : Int) = some true := by
  have J : ∀ (k i : Nat), 250 ≤ k → selvagelaw27_JournalEncodes.j1 (k + 1) l x3 x4 x5 x6 (i : Int) false = some true := by
    intro k i hk
    simp only [selvagelaw27_JournalEncodes.j1]
    rw [if_neg (by decide), if_pos h1, num_at]
    simp only [Option.bind_some]
    rw [if_pos h2, sure_at (by omega)]; rfl
  induction d with
  | zero =>
    intro k i hd hk
    obtain ⟨k, rfl⟩ : ∃ m, k = m + 2 := ⟨k - 2, by omega⟩
    simp only [selvagelaw27_JournalEncodes.l0]
    rw [if_neg (by omega)]
    exact J k i (by omega)
  | succ d ih =>
    intro k i hd hk
    obtain ⟨k, rfl⟩ : ∃ m, k = m + 2 := ⟨k - 2, by omega⟩
    have w1 : wrap64 ((i : Int) + 1) = ((i + 1 : Nat) : Int) := w_add i 1 (by omega)
    simp only [selvagelaw27_JournalEncodes.l0]
    rw [if_pos (by omega)]
    by_cases h50 : (i : Int) < 50
    · rw [decide_eq_true h50]
      have hm := room_mem l (rd_T32 l (i : Int)) (by
        unfold rd_T32
        simp only [Int.toNat_natCast]
        rw [List.getD_eq_getElem?_getD, List.getElem?_eq_getElem (by omega)]
        exact List.getElem_mem _)
      unfold wtS at hm
      simp only [selvagelaw27_JournalEncodes.j1, w1]
      rw [if_pos trivial, if_pos (by omega), if_pos (by omega), valid_at _ _ _ (by omega)]
      simp only [Option.bind_some]
      rw [num_at]
      simp only [Option.bind_some]
      rw [refvalid_at _ _ _ (by omega)]
      simp only [Option.bind_some]
      rw [if_pos (by split <;> rfl)]
      exact ih k (i + 1) (by omega) (by omega)
    · rw [decide_eq_false h50]
      exact J k i (by omega)
theorem JournalEncodes : ∀ (a0 : List S32), (∀ x ∈ a0, ok32 x) → (a0.map wt32).sum + 1 ≤ 1048576 → ∃ k, selvagelaw27_JournalEncodes.f k a0 = some true := by
  intro a0 _ hb
  have hs := sum_room a0
  obtain ⟨K, hK⟩ : ∃ K : Nat, K = 40000000 := ⟨_, rfl⟩
  refine ⟨K, ?_⟩
  unfold selvagelaw27_JournalEncodes.f
  rw [enc_at a0 (by omega) (by omega)]
  simp only [Option.bind_some]
  rw [refenc_at a0 (by omega) (by omega)]
  simp only [Option.bind_some]
  exact encodes_loop a0 (by omega) (by omega) _ _ _ _ rfl rfl a0.length K 0 (by omega) (by omega)
theorem dec_len {b : ByteArray} {r : List S32 × Option Int} (h : DecR b r) : r.1.length ≤ b.size := by
  rcases h with rfl | ⟨l, rfl, h1, h2⟩
  · simp
  · have hrb := room_body l h1
    have hrl := room_length l
    have hsz : b.size = 18 + ((bodyOf l).size + 4) := by rw [h2, ByteArray.size_append, ByteArray.size_append]; rfl
    simp only
    omega
theorem JournalDecodes : ∀ (a0 : ByteArray), (a0.size + 1) ≤ 1048576 → ∃ k, selvagelaw27_JournalDecodes.f k a0 = some true := by
  intro b hb
  obtain ⟨K, hK⟩ : ∃ K : Nat, K = 200000000 := ⟨_, rfl⟩
  refine ⟨K, ?_⟩
  obtain ⟨r, h1, h2, hR⟩ := decode_eq b (by omega) (k := K) (by omega)
  have hl := dec_len hR
  unfold selvagelaw27_JournalDecodes.f
  rw [h1]
  simp only [Option.bind_some]
  rw [h2]
  simp only [Option.bind_some]
  rw [same_self _ (by omega) (by omega)]
  simp only [Option.bind_some, if_true]
  rw [num_at]
  simp only [Option.bind_some]
  rw [if_pos trivial, sure_at (by omega)]; rfl
theorem own_loop (b : ByteArray) (hb : b.size ≤ 1048575) (d : Nat) : ∀ (k i : Nat) (l : List S32), i + d = l.length → l.length ≤ b.size → 200000000 + d ≤ k → selvagelaw27_JournalOwn.l0 k b l (i : Int) = some true := by
  induction d with
  | zero =>
    intro k i l hd hl hk
    obtain ⟨k, rfl⟩ : ∃ m, k = m + 1 := ⟨k - 1, by omega⟩
    simp only [selvagelaw27_JournalOwn.l0]
    rw [if_neg (by omega)]
    simp only [Option.bind_some]
    obtain ⟨r, h1, h2, hR⟩ := decode_eq b (by omega) (k := k) (by omega)
    have hrl := dec_len hR
    rw [if_pos (by simp; omega), h1]
    simp only [Option.bind_some]
    rw [h2]
    simp only [Option.bind_some]
    rw [same_self _ (by omega) (by omega)]
    simp only [Option.bind_some, if_true]
    obtain ⟨Y, hY⟩ : ∃ Y, Y = l ++ [(⟨8, (⟨#[]⟩ : ByteArray), (⟨#[]⟩ : ByteArray)⟩ : S32), (⟨8, (⟨#[]⟩ : ByteArray), (⟨#[]⟩ : ByteArray)⟩ : S32)] := ⟨_, rfl⟩
    have hYl : Y.length = l.length + 2 := by rw [hY]; simp
    have hw : wrap64 ((Y.length : Int) - 1) = ((l.length + 1 : Nat) : Int) := by rw [w_sub _ (by omega)]; omega
    have hrd : (rd_T32 Y ((l.length + 1 : Nat) : Int)).f0 = 8 := by
      unfold rd_T32
      rw [hY]
      simp [List.getD_eq_getElem?_getD]
    rw [← hY, hw, hrd, if_pos (by omega), if_pos (by omega), if_pos rfl, sure_at (by omega)]; rfl
  | succ d ih =>
    intro k i l hd hl hk
    obtain ⟨k, rfl⟩ : ∃ m, k = m + 1 := ⟨k - 1, by omega⟩
    have w1 : wrap64 ((i : Int) + 1) = ((i + 1 : Nat) : Int) := w_add i 1 (by omega)
    simp only [selvagelaw27_JournalOwn.l0, w1]
    rw [if_pos (by omega), if_pos (by omega), ih k (i + 1) _ (by rw [List.length_set]; omega) (by rw [List.length_set]; exact hl) (by omega)]
theorem JournalOwn : ∀ (a0 : ByteArray), (a0.size + 1) ≤ 1048576 → ∃ k, selvagelaw27_JournalOwn.f k a0 = some true := by
  intro b hb
  obtain ⟨K, hK⟩ : ∃ K : Nat, K = 400000000 := ⟨_, rfl⟩
  refine ⟨K, ?_⟩
  obtain ⟨r, h1, h2, hR⟩ := decode_eq b (by omega) (k := K) (by omega)
  have hl := dec_len hR
  unfold selvagelaw27_JournalOwn.f
  rw [h1]
  simp only [Option.bind_some]
  exact own_loop b (by omega) r.1.length K 0 r.1 (by omega) hl (by omega)
theorem nl_split : ∀ (a b m n : List UInt8), (∀ x ∈ a, x ≠ 10) → (∀ x ∈ b, x ≠ 10) → a ++ 10 :: m = b ++ 10 :: n → a = b ∧ m = n
  | [], [], m, n, _, _, h => by simpa using h
  | [], y :: b, m, n, _, hb, h => by
    simp only [List.nil_append, List.cons_append, List.cons.injEq] at h
    exact absurd h.1.symm (hb y (by simp))
  | x :: a, [], m, n, ha, _, h => by
    simp only [List.nil_append, List.cons_append, List.cons.injEq] at h
    exact absurd h.1 (ha x (by simp))
  | x :: a, y :: b, m, n, ha, hb, h => by
    simp only [List.cons_append, List.cons.injEq] at h
    obtain ⟨rfl, h⟩ := h
    obtain ⟨rfl, rfl⟩ := nl_split a b m n (fun z hz => ha z (by simp [hz])) (fun z hz => hb z (by simp [hz])) h
    exact ⟨rfl, rfl⟩
theorem lineB_first (s : S32) : ∃ c r, (lineB s).data.toList = c :: r ∧ c ≠ 101 := by
  unfold lineB
  split
  · exact ⟨114, _, by simp only [app_data]; rfl, by decide⟩
  · split
    · exact ⟨114, _, by simp only [app_data]; rfl, by decide⟩
    · exact ⟨112, _, by simp only [app_data]; rfl, by decide⟩
theorem body_cons (s : S32) (l : List S32) (t : List UInt8) : (bodyOf (s :: l)).data.toList ++ t = (lineB s).data.toList ++ 10 :: ((bodyOf l).data.toList ++ t) := by
  show (((lineB s ++ bNl) ++ bodyOf l).data.toList) ++ t = _
  rw [app_data, app_data, show bNl.data.toList = [10] from rfl]
  simp
theorem no_prefix : ∀ (l m : List S32) (z : List UInt8), ((bodyOf l).data.toList ++ encTail.data.toList) ++ z = (bodyOf m).data.toList ++ encTail.data.toList → z = []
  | [], [], z, h => by simpa [bodyOf] using h
  | [], s :: m, z, h => by
    rw [body_cons] at h
    obtain ⟨c, r, hc, hne⟩ := lineB_first s
    rw [hc, show encTail.data.toList = [101, 110, 100, 10] from rfl] at h
    simp only [bodyOf] at h
    have := congrArg List.head? h
    simp at this
    exact absurd this.symm hne
  | s :: l, [], z, h => by
    rw [body_cons] at h
    obtain ⟨c, r, hc, hne⟩ := lineB_first s
    rw [hc, show encTail.data.toList = [101, 110, 100, 10] from rfl] at h
    simp only [bodyOf] at h
    have := congrArg List.head? h
    simp at this
    exact absurd this hne
  | s :: l, t :: m, z, h => by
    rw [body_cons, body_cons, List.append_assoc, List.cons_append] at h
    obtain ⟨_, h2⟩ := nl_split _ _ _ _ (noNl_line s) (noNl_line t) h
    exact no_prefix l m z h2
theorem JournalBack : ∀ (a0 : List S32) (a1 : ByteArray) (a2 : Int), (∀ x ∈ a0, ok32 x) → (Lit.int IntKind.i64 a2).wf = true → ((a0.map wt32).sum + 1) + (a1.size + 1) + 1 ≤ 1048576 → ∃ k, selvagelaw27_JournalBack.f k a0 a1 a2 = some true := by
  intro l b c _ hc hb
  have hs := sum_room l
  have hbs := body_size l
  have hc1 : -9223372036854775808 ≤ c ∧ c ≤ 9223372036854775807 := by
    simp only [Lit.wf, Bool.and_eq_true, decide_eq_true_eq] at hc
    exact ⟨hc.1, hc.2⟩
  obtain ⟨K, hK⟩ : ∃ K : Nat, K = 4000000000 := ⟨_, rfl⟩
  refine ⟨K + 1, ?_⟩
  have hT : ∀ k : Nat, 3000000000 ≤ k → ∃ r, journal_Decode.f k b = some r ∧ ((∃ m, r = (m, none) ∧ journal_Encode.f k m = some (b, none)) ∨ r = ([], some 270)) := by
    intro k hk
    obtain ⟨r, h1, _, hR⟩ := decode_eq b (by omega) (k := k) (by omega)
    refine ⟨r, h1, ?_⟩
    rcases hR with rfl | ⟨m, rfl, h2, h3⟩
    · exact .inr rfl
    · have hrb := room_body m h2
      have hsz : b.size = 18 + ((bodyOf m).size + 4) := by rw [h3, ByteArray.size_append, ByteArray.size_append]; rfl
      refine .inl ⟨m, rfl, ?_⟩
      rw [enc_at m (by omega) (by omega)]
      unfold encOut
      rw [if_pos h2, ← h3]
  have hS : ∀ k : Nat, 3000000000 ≤ k → selvagelaw27_sure.f k = some true := fun k hk => sure_at (by omega)
  unfold selvagelaw27_JournalBack.f
  rw [enc_at l (by omega) (by omega)]
  simp only [Option.bind_some]
  unfold encOut
  by_cases ha : l.all stepOk = true
  · rw [if_pos ha]
    simp only
    rw [if_pos none_isNone, decode_back l ha (by omega) (by omega)]
    simp only [Option.bind_some]
    rw [if_pos none_isNone, same_self l (by omega) (by omega)]
    simp only [Option.bind_some, if_true]
    obtain ⟨t, ht⟩ : ∃ t, t = encHead ++ (bodyOf l ++ encTail) := ⟨_, rfl⟩
    have htz : t.size = 18 + ((bodyOf l).size + 4) := by rw [ht, ByteArray.size_append, ByteArray.size_append]; rfl
    rw [← ht]
    have hz : ((t.size : Int) == 0) = false := beq_eq_false_iff_ne.mpr (by omega)
    rw [hz]
    simp only [selvagelaw27_JournalBack.j0]
    rw [if_neg (by decide), if_neg (by omega)]
    have hm1 := Int.tmod_lt_of_pos c (show (0 : Int) < (t.size : Int) by omega)
    have hm0 : -(t.size : Int) < Int.tmod c (t.size : Int) := by
      have h1 : Int.tmod (-c) (t.size : Int) < (t.size : Int) := Int.tmod_lt_of_pos _ (by omega)
      rw [Int.neg_tmod] at h1
      omega
    have hw : wrap64 (Int.tmod c (t.size : Int) + (t.size : Int)) = Int.tmod c (t.size : Int) + (t.size : Int) := w64' (by omega) (by omega)
    rw [hw]
    obtain ⟨q, hq0, hq⟩ : ∃ q : Int, 0 < q ∧ q = Int.tmod c (t.size : Int) + (t.size : Int) := ⟨_, by omega, rfl⟩
    rw [← hq]
    have hp1 := Int.tmod_lt_of_pos q (show (0 : Int) < (t.size : Int) by omega)
    have hp0 : 0 ≤ Int.tmod q (t.size : Int) := Int.tmod_nonneg _ (by omega)
    obtain ⟨n, hn⟩ : ∃ n : Nat, Int.tmod q (t.size : Int) = n := ⟨_, (Int.toNat_of_nonneg hp0).symm⟩
    rw [hn] at hp1
    rw [hn, if_pos (by omega), if_pos (by omega)]
    simp only [Int.toNat_natCast]
    have hcs : (t.extract 0 n).size ≤ 40000000 := by rw [ByteArray.size_extract]; omega
    obtain ⟨r1, h1, hR1⟩ := decode_total (t.extract 0 n) (by omega) (k := K) (by omega)
    rw [h1]
    simp only [Option.bind_some]
    rcases hR1 with rfl | ⟨m, rfl, h2, h3⟩
    · rw [if_neg (by simp)]
      obtain ⟨r, h1, hR⟩ := hT K (by omega)
      rw [h1]
      simp only [Option.bind_some]
      rcases hR with ⟨m, rfl, h2⟩ | rfl
      · rw [if_pos none_isNone, h2]
        simp only [Option.bind_some]
        rw [if_pos none_isNone, if_pos trivial, hS _ (by omega)]; rfl
      · rw [if_neg (by simp), if_pos (by simp), hS _ (by omega)]; rfl
    · exfalso
      have e1 : (t.extract 0 n).data.toList = t.data.toList.take n := by rw [Lib.extract_data, List.drop_zero, Nat.sub_zero]
      rw [h3] at e1
      have e2 := List.take_append_drop n t.data.toList
      rw [← e1, ht] at e2
      simp only [app_data, List.append_assoc] at e2
      have e3 := List.append_cancel_left e2
      rw [← List.append_assoc] at e3
      have e4 := no_prefix m l _ e3
      have e5 := congrArg List.length e4
      rw [List.length_drop] at e5
      have e6 : ((encHead ++ (bodyOf l ++ encTail)).data.toList).length = t.size := by rw [← ht]; exact data_length t
      simp only [app_data] at e6
      simp only [List.length_nil] at e5
      omega
  · rw [if_neg ha]
    simp only
    rw [if_neg (by simp)]
    obtain ⟨r, h1, hR⟩ := hT (K + 1) (by omega)
    rw [h1]
    simp only [Option.bind_some]
    rcases hR with ⟨m, rfl, h2⟩ | rfl
    · rw [if_pos none_isNone, h2]
      simp only [Option.bind_some]
      rw [if_pos none_isNone, if_pos trivial, hS _ (by omega)]; rfl
    · rw [if_neg (by simp), if_pos (by simp), hS _ (by omega)]; rfl
end Go.Proofs.YtfempodohmhhlaaDoor.Pure
