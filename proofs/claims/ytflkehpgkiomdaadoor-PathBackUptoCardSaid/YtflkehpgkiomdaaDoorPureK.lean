/-
  Plain laws over the print Pb: by program (gcut.py) out of the session's pure texts: what stripN, rest_lt, strip_at, safe_at, join_at, parts_at, same_at, num_at, sure_at, name_at, parts_join, joinS_ok, head_ok, safeL_facts, pcs_length, sumP_sum, base_size, joinAll_nil_iff, ok_facts, pieces_join, parts_sum, parts_length needs.
-/
import Derived.Test.YtflkehpgkiomdaaDoorEPure
import Derived.Test.YtflkehpgkiomdaaDoorPk4
import Derived.Lib.IndexAny
import Derived.Lib.IndexBytes
import Derived.Lib.IndexLaws
import Derived.Lib.CountLaws
import Derived.Lib.Split
import Derived.Lib.CutLaws
import Derived.Lib.TrimByte
namespace Go.Proofs.YtflkehpgkiomdaaDoor.Pure
open Go.RowKit Go.Proofs.YtflkehpgkiomdaaDoor.Pk Go.Proofs.YtflkehpgkiomdaaDoor.Ext Go.Proofs.YtflkehpgkiomdaaDoorW.PrintWords Go.Proofs.YtflkehpgkiomdaaDoorW.PrintLast
theorem bt_get (s : ByteArray) (i : Nat) (h : i < s.size) : ∃ b : UInt8, s.data.toList.drop i = b :: s.data.toList.drop (i + 1) ∧ bt s (i : Int) = (b.toNat : Int) := by
  have hl : i < s.data.toList.length := by rw [data_length]; exact h
  refine ⟨s.data.toList[i], List.drop_eq_getElem_cons hl, ?_⟩
  rw [bt_list, List.getD_eq_getElem?_getD, List.getElem?_eq_getElem hl]
  rfl
def nb (b : UInt8) : Bool := b != 47 && b != 0
theorem nb_int (b : UInt8) : nb b = true ↔ ¬ (b.toNat : Int) = 47 ∧ ¬ (b.toNat : Int) = 0 := by
  unfold nb
  rw [Bool.and_eq_true, bne_iff_ne, bne_iff_ne]
  have e1 : b = 47 ↔ (b.toNat : Int) = 47 := ⟨fun h => by rw [h]; rfl, fun h => UInt8.toNat_inj.mp (by have : (47 : UInt8).toNat = 47 := rfl; omega)⟩
  have e2 : b = 0 ↔ (b.toNat : Int) = 0 := ⟨fun h => by rw [h]; rfl, fun h => UInt8.toNat_inj.mp (by have : (0 : UInt8).toNat = 0 := rfl; omega)⟩
  rw [Ne, Ne, e1, e2]
def okName (s : ByteArray) : Bool :=
  !(s.toList == ([] : List UInt8)) && decide (s.size ≤ 255) && !(s.toList == ([46] : List UInt8)) && !(s.toList == ([46, 46] : List UInt8)) && s.data.toList.all nb
theorem indexAny_nb : ∀ l : List UInt8, decide (Lib.indexAny l [47, 0] ≥ 0) = !(l.all nb)
  | [] => rfl
  | b :: l => by
    have ih := indexAny_nb l
    have hge := Lib.indexAny_ge [47, 0] l
    unfold Lib.indexAny
    have hc : ([47, 0] : List UInt8).contains b = !(nb b) := by
      unfold nb
      cases h1 : b == 47 <;> cases h2 : b == 0 <;> simp_all
    rw [hc, List.all_cons]
    cases nb b with
    | false => simp
    | true =>
      simp only [Bool.not_true, Bool.true_and]
      rw [← ih]
      by_cases h : Lib.indexAny l [47, 0] = -1
      · rw [h]; rfl
      · have : (Lib.indexAny l [47, 0] == -1) = false := beq_eq_false_iff_ne.mpr h
        rw [this]
        simp only [Bool.false_eq_true, if_false]
        rw [Bool.eq_iff_iff, decide_eq_true_eq, decide_eq_true_eq]
        omega
theorem name_at (s : ByteArray) : path_Name.f s = some (if okName s = true then none else some 30) := by
  unfold path_Name.f okName
  by_cases h0 : s.toList = ([] : List UInt8)
  · rw [if_pos h0]; simp [h0]
  · rw [if_neg h0]
    by_cases h1 : (s.size : Int) > 255
    · have : ¬ s.size ≤ 255 := by omega
      rw [if_pos h1]; simp [this]
    · have h1' : s.size ≤ 255 := by omega
      rw [if_neg h1]
      by_cases h2 : s.toList = ([46] : List UInt8)
      · rw [if_pos h2]; simp [h2]
      · rw [if_neg h2]
        by_cases h3 : s.toList = ([46, 46] : List UInt8)
        · rw [if_pos h3]; simp [h3]
        · rw [if_neg h3]
          have hx : strings_IndexAny.f s (⟨#[47, 0]⟩ : ByteArray) = some (Lib.indexAny s.data.toList [47, 0]) := by
            unfold strings_IndexAny.f
            have hsz : (⟨#[47, 0]⟩ : ByteArray).size = 2 := rfl
            rw [hsz, if_pos]
            refine ⟨by omega, ?_⟩
            decide
          unfold strings_ContainsAny.f
          rw [hx]
          simp only [Option.bind_some, indexAny_nb]
          cases s.data.toList.all nb with
          | true => simp [h0, h1', h2, h3]
          | false => simp
def pcs (s : ByteArray) : Nat → Nat → Nat → List ByteArray
  | 0, a, i => [s.extract a i]
  | d + 1, a, i => if bt s (i : Int) = 47 then s.extract a i :: pcs s d (i + 1) (i + 1) else pcs s d a (i + 1)
def pieces (s : ByteArray) : List ByteArray := pcs s s.size 0 0
theorem pcs_length (s : ByteArray) (d : Nat) : ∀ a i, 1 ≤ (pcs s d a i).length ∧ (pcs s d a i).length ≤ d + 1 := by
  induction d with
  | zero => intro a i; simp [pcs]
  | succ d ih =>
    intro a i
    simp only [pcs]
    split
    · have := ih (i + 1) (i + 1)
      simp only [List.length_cons]; omega
    · have := ih a (i + 1)
      omega
def slash : ByteArray := ⟨#[47]⟩
theorem indexB_slash (t : ByteArray) : Lib.indexB t slash = Lib.indexByte t.data.toList 47 := Lib.index_one t.data.toList 47
theorem no_slash (s : ByteArray) (a i j : Nat) (hs : ∀ m, a ≤ m → m < i → ¬ bt s (m : Int) = 47) (hi : i ≤ s.size) (hj : a + j < i) : (s.extract a s.size).data.toList[j]? ≠ some 47 := by
  intro he
  have hb := hs (a + j) (by omega) (by omega)
  rw [Lib.extract_data, List.getElem?_take, if_pos (by omega), List.getElem?_drop] at he
  rw [bt_list, List.getD_eq_getElem?_getD, he] at hb
  exact hb rfl
theorem index_here (s : ByteArray) (a i : Nat) (ha : a ≤ i) (hi : i < s.size) (hs : ∀ m, a ≤ m → m < i → ¬ bt s (m : Int) = 47) (h47 : bt s (i : Int) = 47) : Lib.indexB (s.extract a s.size) slash = ((i - a : Nat) : Int) := by
  rw [indexB_slash]
  have hge := Lib.indexByte_ge (s.extract a s.size).data.toList 47
  have hat : (s.extract a s.size).data.toList[i - a]? = some 47 := by
    obtain ⟨b, hb, hv⟩ := bt_get s i hi
    rw [Lib.extract_data, List.getElem?_take, if_pos (by omega), List.getElem?_drop, show a + (i - a) = i by omega]
    have e : s.data.toList[i]? = some b := by
      have := congrArg List.head? hb
      rw [List.head?_drop] at this
      exact this
    rw [e]
    congr 1
    exact UInt8.toNat_inj.mp (by have : (47 : UInt8).toNat = 47 := rfl; omega)
  rcases (by omega : Lib.indexByte (s.extract a s.size).data.toList 47 < 0 ∨ 0 ≤ Lib.indexByte (s.extract a s.size).data.toList 47) with h | h
  · exact absurd hat (Lib.indexByte_none (by omega) (i - a))
  · obtain ⟨o, ho⟩ : ∃ o : Nat, Lib.indexByte (s.extract a s.size).data.toList 47 = o := ⟨_, (Int.toNat_of_nonneg h).symm⟩
    obtain ⟨h1, h2⟩ := Lib.indexByte_some ho
    rcases Nat.lt_trichotomy o (i - a) with hc | hc | hc
    · exact absurd h1 (no_slash s a i o hs (by omega) (by omega))
    · rw [ho, hc]
    · exact absurd hat (h2 (i - a) hc)
theorem split_pcs (s : ByteArray) (d : Nat) : ∀ (a i : Nat), i + d = s.size → a ≤ i → (∀ m, a ≤ m → m < i → ¬ bt s (m : Int) = 47) →
    Lib.splitB slash 0 (Lib.countB (s.extract a s.size) slash) (s.extract a s.size) = pcs s d a i := by
  induction d with
  | zero =>
    intro a i hd ha hs
    obtain rfl : i = s.size := by omega
    have hmiss : Lib.indexB (s.extract a s.size) slash = -1 := by
      rw [indexB_slash]
      have hge := Lib.indexByte_ge (s.extract a s.size).data.toList 47
      rcases (by omega : Lib.indexByte (s.extract a s.size).data.toList 47 < 0 ∨ 0 ≤ Lib.indexByte (s.extract a s.size).data.toList 47) with h | h
      · omega
      · obtain ⟨o, ho⟩ : ∃ o : Nat, Lib.indexByte (s.extract a s.size).data.toList 47 = o := ⟨_, (Int.toNat_of_nonneg h).symm⟩
        obtain ⟨h1, _⟩ := Lib.indexByte_some ho
        have hlt : o < s.size - a := by
          have := (List.getElem?_eq_some_iff.mp h1).1
          rw [data_length, size_cut] at this
          exact this
        exact absurd h1 (no_slash s a s.size o hs (Nat.le_refl _) (by omega))
    rw [Lib.countB_miss _ _ hmiss]
    rfl
  | succ d ih =>
    intro a i hd ha hs
    simp only [pcs]
    by_cases h : bt s (i : Int) = 47
    · rw [if_pos h]
      have hix := index_here s a i ha (by omega) hs h
      have hsz : slash.size = 1 := rfl
      rw [Lib.countB_hit _ _ (i - a) (by rw [hsz]; exact Nat.le_refl 1) hix, Nat.add_comm 1, Lib.splitB_hit _ _ _ _ (i - a) hix, hsz, size_cut, Nat.add_zero]
      have e1 : (s.extract a s.size).extract (i - a + 1) (s.size - a) = s.extract (i + 1) s.size := by
        rw [ext_ext s a s.size _ _ (by omega), show a + (i - a + 1) = i + 1 by omega, show a + (s.size - a) = s.size by omega]
      have e2 : (s.extract a s.size).extract 0 (i - a) = s.extract a i := by
        rw [ext_ext s a s.size _ _ (by omega), Nat.add_zero, show a + (i - a) = i by omega]
      rw [e1, e2, ih (i + 1) (i + 1) (by omega) (Nat.le_refl _) (fun m h1 h2 => by omega)]
    · rw [if_neg h]
      refine ih a (i + 1) (by omega) (by omega) (fun m h1 h2 => ?_)
      by_cases e : m = i
      · rw [e]; exact h
      · exact hs m h1 (by omega)
theorem split_at (s : ByteArray) (hn : s.size ≤ 4000000000) : strings_Split.f s (⟨#[47]⟩ : ByteArray) = some (pieces s) := by
  unfold strings_Split.f
  have hsz : (⟨#[47]⟩ : ByteArray).size = 1 := rfl
  rw [hsz, if_pos (by omega)]
  have := split_pcs s s.size 0 0 (by omega) (by omega) (fun m _ h => by omega)
  rw [ext_all] at this
  rw [show (⟨#[47]⟩ : ByteArray) = slash from rfl, this]; rfl
def partsOf (l : List ByteArray) : List ByteArray × Option Int :=
  if l.all okName = true then (if l.length > 64 then ([], some 2) else (l, none)) else ([], some 30)
def parts (s : ByteArray) : List ByteArray × Option Int :=
  if s.size > 4096 then ([], some 2) else if s.size = 0 then ([], none) else partsOf (pieces s)
theorem drop_getD {α : Type} (l : List α) (d : α) (i : Nat) (h : i < l.length) : l.drop i = l.getD i d :: l.drop (i + 1) := by
  rw [List.getD_eq_getElem?_getD, List.getElem?_eq_getElem h]
  exact List.drop_eq_getElem_cons h
def errNum : Option Int → Int
  | none => 0
  | some n => n
theorem errNum_eq (o : Option Int) : o.getD 0 = errNum o := by cases o <;> rfl
theorem parts_loop (l : List ByteArray) (hn : l.length ≤ 4000000000) (d : Nat) : ∀ (k i : Nat), i + d = l.length → d < k →
    path_Parts.l0 k l l (l.length : Int) (i : Int) = some (if (l.drop i).all okName = true then (if l.length > 64 then ([], some 2) else (l, none)) else ([], some 30)) := by
  induction d with
  | zero =>
    intro k i hd hk
    obtain ⟨k, rfl⟩ : ∃ m, k = m + 1 := ⟨k - 1, by omega⟩
    simp only [path_Parts.l0]
    rw [if_neg (by omega), List.drop_of_length_le (by omega)]
    by_cases h : l.length > 64
    · rw [if_pos (by omega), if_pos h]; rfl
    · rw [if_neg (by omega), if_neg h]; rfl
  | succ d ih =>
    intro k i hd hk
    obtain ⟨k, rfl⟩ : ∃ m, k = m + 1 := ⟨k - 1, by omega⟩
    have w1 : wrap64 ((i : Int) + 1) = ((i + 1 : Nat) : Int) := w_add i 1 (by omega)
    simp only [path_Parts.l0, w1, rd_nat, name_at, Option.bind_some]
    rw [if_pos (by omega), if_pos (by omega), if_pos (by omega), ih k (i + 1) (by omega) (by omega), drop_getD l ByteArray.empty i (by omega), List.all_cons]
    cases okName (l.getD i ByteArray.empty) with
    | true => simp
    | false => simp
theorem parts_at (s : ByteArray) {k : Nat} (hk : s.size + 2 ≤ k) : path_Parts.f k s = some (parts s) := by
  unfold path_Parts.f parts
  by_cases h : s.size > 4096
  · rw [if_pos (by omega), if_pos h]
  · rw [if_neg (by omega), if_neg h]
    by_cases h0 : s.size = 0
    · rw [if_pos ((toList_nil s).mpr h0), if_pos h0]
    · rw [if_neg (fun e => h0 ((toList_nil s).mp e)), if_neg h0, split_at s (by omega)]
      simp only [Option.bind_some]
      have hl := pcs_length s s.size 0 0
      have := parts_loop (pieces s) (by unfold pieces; omega) (pieces s).length k 0 (by omega) (by unfold pieces; omega)
      rw [show ((0 : Nat) : Int) = 0 from rfl, List.drop_zero] at this
      rw [this]; rfl
def lst (s : ByteArray) : Nat → Int
  | 0 => -1
  | n + 1 => if bt s (n : Int) = 47 then (n : Int) else lst s n
theorem lst_range (s : ByteArray) (n : Nat) : -1 ≤ lst s n ∧ lst s n < n := by
  induction n with
  | zero => simp [lst]
  | succ n ih =>
    simp only [lst]
    split <;> omega
theorem lastIndex_loop (s : ByteArray) (hn : s.size ≤ 4000000000) (n : Nat) : ∀ k, n ≤ s.size → n < k → bytealg_LastIndexByteString.l0 k s 47 ((n : Int) - 1) = some (lst s n) := by
  induction n with
  | zero =>
    intro k hs hk
    obtain ⟨k, rfl⟩ : ∃ m, k = m + 1 := ⟨k - 1, by omega⟩
    simp only [bytealg_LastIndexByteString.l0, lst]
    rw [if_neg (by omega)]
  | succ n ih =>
    intro k hs hk
    obtain ⟨k, rfl⟩ : ∃ m, k = m + 1 := ⟨k - 1, by omega⟩
    have e : ((n + 1 : Nat) : Int) - 1 = (n : Int) := by omega
    rw [e]
    simp only [bytealg_LastIndexByteString.l0, lst]
    rw [if_pos (by omega), if_pos (by omega), if_pos (by omega), w_sub n (by omega)]
    by_cases h : bt s (n : Int) = 47
    · rw [if_pos h, if_pos h]
    · rw [if_neg h, if_neg h, ih k (by omega) (by omega)]
theorem lastIndex_at (s : ByteArray) (hn : s.size ≤ 4000000000) {k : Nat} (hk : s.size < k) : strings_LastIndexByte.f k s 47 = some (lst s s.size) := by
  unfold strings_LastIndexByte.f bytealg_LastIndexByteString.f
  rw [w_sub s.size (by omega), lastIndex_loop s hn s.size k (Nat.le_refl _) hk]; rfl
def base (s : ByteArray) : ByteArray := s.extract (lst s s.size + 1).toNat s.size
theorem base_at (s : ByteArray) (hn : s.size ≤ 4000000000) {k : Nat} (hk : s.size < k) : path_Base.f k s = some (base s) := by
  unfold path_Base.f base
  rw [lastIndex_at s hn hk, Option.bind_some]
  have r := lst_range s s.size
  rw [w64' (by omega) (by omega), if_pos (by omega), if_pos (by omega)]
theorem same_loop (l : List ByteArray) (hn : l.length ≤ 4000000000) (d : Nat) : ∀ (k i : Nat), i + d = l.length → d < k → selvagelaw03_same.l0 k l l (i : Int) = some true := by
  induction d with
  | zero =>
    intro k i hd hk
    obtain ⟨k, rfl⟩ : ∃ m, k = m + 1 := ⟨k - 1, by omega⟩
    simp only [selvagelaw03_same.l0]
    rw [if_neg (by omega)]
  | succ d ih =>
    intro k i hd hk
    obtain ⟨k, rfl⟩ : ∃ m, k = m + 1 := ⟨k - 1, by omega⟩
    have w1 : wrap64 ((i : Int) + 1) = ((i + 1 : Nat) : Int) := w_add i 1 (by omega)
    simp only [selvagelaw03_same.l0, w1]
    rw [if_pos (by omega), if_pos (by omega), if_pos (by omega), if_pos trivial]
    exact ih k (i + 1) (by omega) (by omega)
theorem same_at (l : List ByteArray) (hn : l.length ≤ 4000000000) {k : Nat} (hk : l.length < k) : selvagelaw03_same.f k l l = some true := by
  unfold selvagelaw03_same.f
  rw [if_pos rfl]
  exact same_loop l hn l.length k 0 (by omega) hk
theorem num_at (o : Option Int) : selvagelaw03_num.f o = some (errNum o) := by
  unfold selvagelaw03_num.f
  rw [errNum_eq]
theorem sure_true : selvagelaw03_sure.f 60 = some true := by decide +kernel
theorem sure_at {k : Nat} (hk : 60 ≤ k) : selvagelaw03_sure.f k = some true := at_rounds selvagelaw03_sure.mono hk sure_true
def joinAll (l : List ByteArray) : ByteArray := joinP l slash l.length
def joinS (l : List ByteArray) : ByteArray × Option Int :=
  if l.all okName = true then (if l.length > 64 then (⟨#[]⟩, some 2) else if (joinAll l).size > 4096 then (⟨#[]⟩, some 2) else (joinAll l, none)) else (⟨#[]⟩, some 30)
theorem joinAll_size (l : List ByteArray) : ((joinAll l).size : Int) = if l.length = 0 then 0 else (l.length : Int) - 1 + (sumP l l.length : Int) := by
  unfold joinAll
  by_cases h : l.length = 0
  · rw [if_pos h, h]; rfl
  · obtain ⟨n, hn⟩ : ∃ n, l.length = n + 1 := ⟨l.length - 1, by omega⟩
    have := joinP_size l slash n
    have hs : slash.size = 1 := rfl
    rw [if_neg h, hn, this, hs]
    omega
theorem join_loop (l : List ByteArray) (hn : l.length ≤ 4000000000) (hsum : sumP l l.length ≤ 4000000000) (d : Nat) : ∀ (k i : Nat) (x : Int), i + d = l.length → d < k → x = (l.length : Int) - 1 + (sumP l i : Int) →
    path_Join.l0 k l x l (l.length : Int) (i : Int) = some (if (l.drop i).all okName = true then (if l.length > 64 then (⟨#[]⟩, some 2) else if (joinAll l).size > 4096 then (⟨#[]⟩, some 2) else (joinAll l, none)) else (⟨#[]⟩, some 30)) := by
  induction d with
  | zero =>
    intro k i x hd hk hx
    obtain ⟨k, rfl⟩ : ∃ m, k = m + 1 := ⟨k - 1, by omega⟩
    have hi : i = l.length := by omega
    simp only [path_Join.l0]
    rw [if_neg (by omega), List.drop_of_length_le (by omega)]
    have hsz := joinAll_size l
    rw [hi] at hx
    by_cases h : l.length > 64
    · rw [if_pos (by omega), if_pos h]; rfl
    · rw [if_neg (by omega), if_neg h]
      by_cases h2 : (joinAll l).size > 4096
      · have : x > 4096 := by
          by_cases z : l.length = 0
          · rw [if_pos z] at hsz; omega
          · rw [if_neg z] at hsz; omega
        rw [if_pos this, if_pos h2]; rfl
      · have : ¬ x > 4096 := by
          by_cases z : l.length = 0
          · have : sumP l l.length = 0 := by rw [z]; rfl
            omega
          · rw [if_neg z] at hsz; omega
        rw [if_neg this, if_neg h2]
        unfold strings_Join.f
        rw [if_pos ⟨by omega, by have e : (⟨#[47]⟩ : ByteArray) = slash := rfl
                                 rw [e]; unfold joinAll at h2; omega⟩]
        rfl
  | succ d ih =>
    intro k i x hd hk hx
    obtain ⟨k, rfl⟩ : ∃ m, k = m + 1 := ⟨k - 1, by omega⟩
    have w1 : wrap64 ((i : Int) + 1) = ((i + 1 : Nat) : Int) := w_add i 1 (by omega)
    have hstep : sumP l (i + 1) = sumP l i + (l.getD i ByteArray.empty).size := rfl
    have hle := sumP_le l (i + 1) l.length (by omega)
    have w2 : wrap64 (x + ((l.getD i ByteArray.empty).size : Int)) = x + ((l.getD i ByteArray.empty).size : Int) := w64' (by omega) (by omega)
    simp only [path_Join.l0, w1, rd_nat, name_at, Option.bind_some, w2]
    rw [if_pos (by omega), if_pos (by omega), if_pos (by omega), ih k (i + 1) _ (by omega) (by omega) (by omega), drop_getD l ByteArray.empty i (by omega), List.all_cons]
    cases okName (l.getD i ByteArray.empty) with
    | true => simp
    | false => simp
theorem join_at (l : List ByteArray) (hn : l.length ≤ 4000000000) (hsum : sumP l l.length ≤ 4000000000) {k : Nat} (hk : l.length < k) : path_Join.f k l = some (joinS l) := by
  unfold path_Join.f
  rw [w_sub l.length (by omega)]
  exact join_loop l hn hsum l.length k 0 _ (by omega) hk (by simp [sumP])
theorem empty_app (s : ByteArray) : (⟨#[]⟩ : ByteArray) ++ s = s := by
  apply ba_ext; rw [app_data]; rfl
def safeL : List ByteArray → List ByteArray → Option (List ByteArray)
  | [], acc => some acc
  | x :: l, acc =>
    if x.toList = ([46, 46] : List UInt8) then none
    else if x.toList = ([] : List UInt8) then safeL l acc
    else if x.toList = ([46] : List UInt8) then safeL l acc
    else safeL l (acc ++ [x])
def safeS (s : ByteArray) : ByteArray × Option Int :=
  if s.size = 0 ∨ bt s 0 = 47 then (⟨#[]⟩, some 31)
  else match safeL (pieces s) [] with
    | none => (⟨#[]⟩, some 31)
    | some acc => if acc.length = 0 then (⟨#[]⟩, some 30) else joinS acc
theorem sumP_app (a b : List ByteArray) : sumP (a ++ b) (a ++ b).length = sumP a a.length + sumP b b.length := by
  have h1 : ∀ n, n ≤ a.length → sumP (a ++ b) n = sumP a n := fun n => by
    induction n with
    | zero => intro _; rfl
    | succ n ih =>
      intro h
      simp only [sumP]
      rw [ih (by omega), List.getD_eq_getElem?_getD, List.getD_eq_getElem?_getD, List.getElem?_append_left (by omega)]
  have h2 : ∀ n, sumP (a ++ b) (a.length + n) = sumP a a.length + sumP b n := fun n => by
    induction n with
    | zero => exact h1 a.length (Nat.le_refl _)
    | succ n ih =>
      rw [show a.length + (n + 1) = (a.length + n) + 1 by omega]
      simp only [sumP]
      rw [ih, List.getD_eq_getElem?_getD, List.getD_eq_getElem?_getD, List.getElem?_append_right (by omega), Nat.add_sub_cancel_left]
      omega
  rw [List.length_append]
  exact h2 b.length
theorem sumP_cons (x : ByteArray) (l : List ByteArray) : sumP (x :: l) (x :: l).length = x.size + sumP l l.length := by
  have := sumP_app [x] l
  simp only [List.cons_append, List.nil_append] at this
  rw [this]
  simp [sumP]
theorem sumP_sum : ∀ l : List ByteArray, sumP l l.length = (l.map (·.size)).sum
  | [] => rfl
  | x :: l => by rw [sumP_cons, sumP_sum l, List.map_cons, List.sum_cons]
theorem sumP_one (x : ByteArray) : sumP [x] [x].length = x.size := by simp [sumP]
theorem pcs_sum (s : ByteArray) (d : Nat) : ∀ a i, a ≤ i → i + d = s.size → sumP (pcs s d a i) (pcs s d a i).length ≤ s.size - a := by
  induction d with
  | zero =>
    intro a i h1 h2
    simp only [pcs]
    rw [sumP_one, ByteArray.size_extract]; omega
  | succ d ih =>
    intro a i h1 h2
    simp only [pcs]
    split
    · rw [sumP_cons, ByteArray.size_extract]
      have := ih (i + 1) (i + 1) (Nat.le_refl _) (by omega)
      omega
    · exact ih a (i + 1) (by omega) (by omega)
theorem safe_loop (l : List ByteArray) (hn : l.length ≤ 2000000) (hsum : sumP l l.length ≤ 2000000) (d : Nat) : ∀ (k i : Nat) (acc : List ByteArray), i + d = l.length → acc.length ≤ i → sumP acc acc.length ≤ sumP l i → d + l.length + 4 ≤ k →
    path_Safe.l0 k acc l (l.length : Int) (i : Int) = some (match safeL (l.drop i) acc with | none => (⟨#[]⟩, some 31) | some acc => if acc.length = 0 then (⟨#[]⟩, some 30) else joinS acc) := by
  induction d with
  | zero =>
    intro k i acc hd hacc hs hk
    obtain ⟨k, rfl⟩ : ∃ m, k = m + 1 := ⟨k - 1, by omega⟩
    have hle := sumP_le l i l.length (by omega)
    simp only [path_Safe.l0]
    rw [if_neg (by omega), List.drop_of_length_le (by omega)]
    simp only [safeL]
    by_cases h : acc.length = 0
    · rw [if_pos (by omega), if_pos h]
    · rw [if_neg (by omega), if_neg h, join_at acc (by omega) (by omega) (by omega)]; rfl
  | succ d ih =>
    intro k i acc hd hacc hs hk
    obtain ⟨k, rfl⟩ : ∃ m, k = m + 1 := ⟨k - 1, by omega⟩
    have w1 : wrap64 ((i : Int) + 1) = ((i + 1 : Nat) : Int) := w_add i 1 (by omega)
    have hstep : sumP l (i + 1) = sumP l i + (l.getD i ByteArray.empty).size := rfl
    simp only [path_Safe.l0, w1, rd_nat]
    rw [if_pos (by omega), if_pos (by omega), if_pos (by omega), drop_getD l ByteArray.empty i (by omega)]
    simp only [safeL]
    by_cases c1 : (l.getD i ByteArray.empty).toList = ([46, 46] : List UInt8)
    · rw [if_pos c1, if_pos c1]
    · rw [if_neg c1, if_neg c1]
      by_cases c2 : (l.getD i ByteArray.empty).toList = ([] : List UInt8)
      · rw [if_pos c2, if_pos c2]
        exact ih k (i + 1) acc (by omega) (by omega) (by omega) (by omega)
      · rw [if_neg c2, if_neg c2]
        by_cases c3 : (l.getD i ByteArray.empty).toList = ([46] : List UInt8)
        · rw [if_pos c3, if_pos c3]
          exact ih k (i + 1) acc (by omega) (by omega) (by omega) (by omega)
        · rw [if_neg c3, if_neg c3, if_pos (by omega)]
          exact ih k (i + 1) _ (by omega) (by simp; omega) (by rw [sumP_app, sumP_one]; omega) (by omega)
theorem safe_at (s : ByteArray) (hn : s.size ≤ 1048576) {k : Nat} (hk : 3 * s.size + 10 ≤ k) : path_Safe.f k s = some (safeS s) := by
  obtain ⟨k, rfl⟩ : ∃ m, k = m + 1 := ⟨k - 1, by omega⟩
  unfold path_Safe.f safeS
  have jt : path_Safe.j0 (k + 1) s true = some (⟨#[]⟩, some 31) := by simp [path_Safe.j0]
  by_cases h0 : s.size = 0
  · rw [if_pos ((toList_nil s).mpr h0), jt, if_pos (Or.inl h0)]
  · rw [if_neg (fun e => h0 ((toList_nil s).mp e)), if_pos (by omega)]
    by_cases h47 : bt s 0 = 47
    · have : (bt s 0 == 47) = true := by rw [h47]; rfl
      rw [this, jt, if_pos (Or.inr h47)]
    · have : (bt s 0 == 47) = false := beq_eq_false_iff_ne.mpr h47
      rw [this, if_neg (by omega)]
      simp only [path_Safe.j0]
      rw [if_neg (by simp), split_at s (by omega), Option.bind_some]
      have hl := pcs_length s s.size 0 0
      have hs := pcs_sum s s.size 0 0 (Nat.le_refl _) (by omega)
      have := safe_loop (pieces s) (by unfold pieces; omega) (by unfold pieces; omega) (pieces s).length k 0 [] (by omega) (by simp) (by simp [sumP]) (by unfold pieces; omega)
      rw [show ((0 : Nat) : Int) = 0 from rfl, List.drop_zero] at this
      exact this
def fs (s : ByteArray) : Nat → Nat → Nat
  | 0, i => i
  | d + 1, i => if bt s (i : Int) = 47 then i else fs s d (i + 1)
def ns (s : ByteArray) : Nat → Nat → Nat
  | 0, i => i
  | d + 1, i => if bt s (i : Int) = 47 then ns s d (i + 1) else i
theorem fs_facts (s : ByteArray) (d : Nat) : ∀ i, i + d = s.size → i ≤ fs s d i ∧ fs s d i ≤ s.size ∧ (∀ m, i ≤ m → m < fs s d i → ¬ bt s (m : Int) = 47) ∧ (fs s d i < s.size → bt s ((fs s d i : Nat) : Int) = 47) := by
  induction d with
  | zero => intro i h; exact ⟨Nat.le_refl _, by simp only [fs]; omega, fun m h1 h2 => by simp only [fs] at h2; omega, fun h2 => by simp only [fs] at h2; omega⟩
  | succ d ih =>
    intro i h
    simp only [fs]
    by_cases c : bt s (i : Int) = 47
    · rw [if_pos c]
      exact ⟨Nat.le_refl _, by omega, fun m h1 h2 => by omega, fun _ => c⟩
    · rw [if_neg c]
      obtain ⟨h1, h2, h3, h4⟩ := ih (i + 1) (by omega)
      refine ⟨by omega, h2, fun m h5 h6 => ?_, h4⟩
      by_cases e : m = i
      · rw [e]; exact c
      · exact h3 m (by omega) h6
theorem ns_facts (s : ByteArray) (d : Nat) : ∀ i, i + d = s.size → i ≤ ns s d i ∧ ns s d i ≤ s.size ∧ (∀ m, i ≤ m → m < ns s d i → bt s (m : Int) = 47) ∧ (ns s d i < s.size → ¬ bt s ((ns s d i : Nat) : Int) = 47) := by
  induction d with
  | zero => intro i h; exact ⟨Nat.le_refl _, by simp only [ns]; omega, fun m h1 h2 => by simp only [ns] at h2; omega, fun h2 => by simp only [ns] at h2; omega⟩
  | succ d ih =>
    intro i h
    simp only [ns]
    by_cases c : bt s (i : Int) = 47
    · rw [if_pos c]
      obtain ⟨h1, h2, h3, h4⟩ := ih (i + 1) (by omega)
      refine ⟨by omega, h2, fun m h5 h6 => ?_, h4⟩
      by_cases e : m = i
      · rw [e]; exact c
      · exact h3 m (by omega) h6
    · rw [if_neg c]
      exact ⟨Nat.le_refl _, by omega, fun m h1 h2 => by omega, fun _ => c⟩
def slashAt (s : ByteArray) : Nat := fs s s.size 0
def restAt (s : ByteArray) : Nat := ns s (s.size - slashAt s) (slashAt s)
theorem bt_47 (s : ByteArray) (i : Nat) (b : UInt8) (h : s.data.toList[i]? = some b) : b = 47 ↔ bt s (i : Int) = 47 := by
  rw [bt_list, List.getD_eq_getElem?_getD, h]
  simp only [Option.getD_some]
  exact ⟨fun h => by rw [h]; rfl, fun h => UInt8.toNat_inj.mp (by have : (47 : UInt8).toNat = 47 := rfl; omega)⟩
theorem indexByte_at (s : ByteArray) : strings_IndexByte.f s 47 = some (if slashAt s = s.size then -1 else (slashAt s : Int)) := by
  unfold strings_IndexByte.f
  have h47 : UInt8.ofNat (47 : Int).toNat = 47 := rfl
  rw [h47]
  obtain ⟨h1, h2, h3, h4⟩ := fs_facts s s.size 0 (by omega)
  by_cases h : slashAt s = s.size
  · rw [if_pos h]
    have hmiss : Lib.indexByte s.data.toList 47 = -1 := by
      have hge := Lib.indexByte_ge s.data.toList 47
      rcases (by omega : Lib.indexByte s.data.toList 47 < 0 ∨ 0 ≤ Lib.indexByte s.data.toList 47) with c | c
      · omega
      · obtain ⟨o, ho⟩ : ∃ o : Nat, Lib.indexByte s.data.toList 47 = o := ⟨_, (Int.toNat_of_nonneg c).symm⟩
        obtain ⟨e1, _⟩ := Lib.indexByte_some ho
        have hlt : o < s.size := by
          have := (List.getElem?_eq_some_iff.mp e1).1
          rw [data_length] at this
          exact this
        unfold slashAt at h
        exact absurd ((bt_47 s o 47 e1).mp rfl) (h3 o (by omega) (by omega))
    rw [hmiss]
  · rw [if_neg h]
    have hlt : slashAt s < s.size := by unfold slashAt at h ⊢; omega
    have := index_here s 0 (slashAt s) (by omega) hlt (fun m a b => h3 m (by omega) b) (h4 hlt)
    rw [indexB_slash, ext_all] at this
    rw [this]; rfl
theorem trimLeft_at (s : ByteArray) : strings_TrimLeft.f (s.extract (slashAt s) s.size) (⟨#[47]⟩ : ByteArray) = some (s.extract (restAt s) s.size) := by
  obtain ⟨h1, h2, h3, h4⟩ := fs_facts s s.size 0 (by omega)
  have e0 : slashAt s = fs s s.size 0 := rfl
  obtain ⟨g1, g2, g3, g4⟩ := ns_facts s (s.size - slashAt s) (slashAt s) (by omega)
  have e1 : restAt s = ns s (s.size - slashAt s) (slashAt s) := rfl
  rw [← e1] at g1 g2 g3 g4
  unfold strings_TrimLeft.f
  have ho : oneAscii (⟨#[47]⟩ : ByteArray) = some 47 := rfl
  rw [ho, Option.map_some]
  congr 1
  apply ba_ext
  have hg : ∀ j, (s.extract (slashAt s) s.size).data.toList[j]? = if j < s.size - slashAt s then s.data.toList[slashAt s + j]? else none := by
    intro j
    rw [Lib.extract_data, List.getElem?_take]
    by_cases hj : j < s.size - slashAt s
    · rw [if_pos hj, if_pos hj, List.getElem?_drop]
    · rw [if_neg hj, if_neg hj]
  have := Lib.trimLeftB_drop (s.extract (slashAt s) s.size).data.toList 47 (restAt s - slashAt s) (by rw [data_length, size_cut]; omega)
    (fun j b hj hb => by
      rw [hg, if_pos (by omega)] at hb
      exact (bt_47 s _ b hb).mpr (g3 (slashAt s + j) (by omega) (by omega)))
    (fun b hb he => by
      rw [hg] at hb
      by_cases hj : restAt s - slashAt s < s.size - slashAt s
      · rw [if_pos hj, show slashAt s + (restAt s - slashAt s) = restAt s by omega] at hb
        exact g4 (by omega) ((bt_47 s _ b hb).mp he)
      · rw [if_neg hj] at hb; cases hb)
  show (Lib.trimLeftB (s.extract (slashAt s) s.size).data.toList 47) = _
  rw [this, Lib.extract_data, Lib.extract_data, List.drop_take, List.drop_drop]
  congr 1
  · omega
  · congr 1; omega
def stripN : Nat → ByteArray → Int → ByteArray × Option Int
  | 0, _, _ => (⟨#[]⟩, none)
  | d + 1, s, m =>
    if m > 0 then (if slashAt s = s.size then (⟨#[]⟩, some 32) else stripN d (s.extract (restAt s) s.size) (m - 1))
    else if s.size = 0 then (⟨#[]⟩, some 32) else (s, none)
theorem rest_lt (s : ByteArray) (h : ¬ slashAt s = s.size) : slashAt s < restAt s ∧ restAt s ≤ s.size ∧ slashAt s < s.size := by
  obtain ⟨h1, h2, h3, h4⟩ := fs_facts s s.size 0 (by omega)
  have e0 : slashAt s = fs s s.size 0 := rfl
  obtain ⟨g1, g2, g3, g4⟩ := ns_facts s (s.size - slashAt s) (slashAt s) (by omega)
  have e1 : restAt s = ns s (s.size - slashAt s) (slashAt s) := rfl
  rw [← e1] at g1 g2 g3 g4
  rw [← e0] at h1 h2 h3 h4
  refine ⟨?_, g2, by omega⟩
  by_cases e : restAt s = slashAt s
  · exact absurd (h4 (by omega)) (by rw [← e]; exact g4 (by omega))
  · omega
theorem strip_loop (n : Int) (hn : n ≤ 9223372036854775807) (d : Nat) : ∀ (k : Nat) (s : ByteArray) (i : Int), s.size < d → d ≤ k → 0 ≤ i →
    path_Strip.l0 k s n i = some (stripN d s (n - i)) := by
  induction d with
  | zero => intro k s i h; omega
  | succ d ih =>
    intro k s i h hk hi
    obtain ⟨k, rfl⟩ : ∃ m, k = m + 1 := ⟨k - 1, by omega⟩
    simp only [path_Strip.l0, stripN]
    by_cases c : i < n
    · rw [if_pos c, if_pos (by omega), indexByte_at, Option.bind_some]
      by_cases z : slashAt s = s.size
      · rw [if_pos z, if_pos (by omega), if_pos z]
      · have hr := rest_lt s z
        rw [if_neg z, if_neg (by omega), if_pos (by omega), if_pos (by omega), Int.toNat_natCast, trimLeft_at, Option.bind_some, if_neg z, w64' (by omega) (by omega)]
        rw [ih k _ (i + 1) (by rw [size_cut]; omega) (by omega) (by omega), show n - (i + 1) = n - i - 1 by omega]
    · rw [if_neg c, if_neg (show ¬ n - i > 0 by omega)]
      by_cases z : s.size = 0
      · rw [if_pos ((toList_nil s).mpr z), if_pos z]
      · rw [if_neg (fun e => z ((toList_nil s).mp e)), if_neg z]
def tr (s : ByteArray) : Nat → Nat
  | 0 => 0
  | n + 1 => if bt s (n : Int) = 47 then tr s n else n + 1
theorem tr_facts (s : ByteArray) (n : Nat) : tr s n ≤ n ∧ (∀ m, tr s n ≤ m → m < n → bt s (m : Int) = 47) ∧ (0 < tr s n → ¬ bt s ((tr s n - 1 : Nat) : Int) = 47) := by
  induction n with
  | zero => exact ⟨Nat.le_refl _, fun m h1 h2 => by omega, fun h => by simp only [tr] at h; omega⟩
  | succ n ih =>
    simp only [tr]
    by_cases c : bt s (n : Int) = 47
    · rw [if_pos c]
      refine ⟨by omega, fun m h1 h2 => ?_, ih.2.2⟩
      by_cases e : m = n
      · rw [e]; exact c
      · exact ih.2.1 m h1 (by omega)
    · rw [if_neg c]
      exact ⟨Nat.le_refl _, fun m h1 h2 => by omega, fun _ => by rw [Nat.add_sub_cancel]; exact c⟩
theorem trimRight_at (s : ByteArray) (hs : s.size ≤ 4000000000) : strings_TrimRight.f s (⟨#[47]⟩ : ByteArray) = some (s.extract 0 (tr s s.size)) := by
  obtain ⟨h1, h2, h3⟩ := tr_facts s s.size
  unfold strings_TrimRight.f
  have ho : oneAscii (⟨#[47]⟩ : ByteArray) = some 47 := rfl
  rw [if_pos (by omega), ho, Option.map_some]
  congr 1
  apply ba_ext
  have := Lib.trimRightB_take s.data.toList 47 (tr s s.size) (by rw [data_length]; exact h1)
    (fun j b hj hb => by
      have hlt := (List.getElem?_eq_some_iff.mp hb).1
      rw [data_length] at hlt
      exact (bt_47 s j b hb).mpr (h2 j hj hlt))
    (fun b hp hb he => h3 hp ((bt_47 s _ b hb).mp he))
  show (Lib.trimRightB s.data.toList 47) = _
  rw [this, Lib.extract_data, List.drop_zero, Nat.sub_zero]
def stripS (s : ByteArray) (n : Int) : ByteArray × Option Int :=
  if n < -1 then (⟨#[]⟩, some 1) else if n = -1 then stripN (s.size + 1) (base (s.extract 0 (tr s s.size))) (-1) else stripN (s.size + 1) s n
theorem base_size (s : ByteArray) : (base s).size ≤ s.size := by
  unfold base; rw [ByteArray.size_extract]; omega
theorem strip_at (s : ByteArray) (n : Int) (hs : s.size ≤ 4000000000) (hn : n ≤ 9223372036854775807) {k : Nat} (hk : s.size + 5 ≤ k) : path_Strip.f k s n = some (stripS s n) := by
  obtain ⟨k, rfl⟩ : ∃ m, k = m + 1 := ⟨k - 1, by omega⟩
  unfold path_Strip.f stripS
  by_cases h1 : n < -1
  · rw [if_pos h1, if_pos h1]
  · rw [if_neg h1, if_neg h1]
    by_cases h2 : n = -1
    · have ht := (tr_facts s s.size).1
      have hsz : (s.extract 0 (tr s s.size)).size ≤ s.size := by rw [ByteArray.size_extract]; omega
      have hb := base_size (s.extract 0 (tr s s.size))
      rw [if_pos h2, if_pos h2, trimRight_at s hs, Option.bind_some, base_at _ (by omega) (by omega), Option.bind_some]
      simp only [path_Strip.j0]
      rw [strip_loop n hn (s.size + 1) k _ 0 (by omega) (by omega) (by omega), h2]
      rfl
    · rw [if_neg h2, if_neg h2]
      simp only [path_Strip.j0]
      rw [strip_loop n hn (s.size + 1) k s 0 (by omega) (by omega) (by omega), Int.sub_zero]
theorem app_assoc (a b c : ByteArray) : (a ++ b) ++ c = a ++ (b ++ c) := by
  apply ba_ext
  rw [app_data, app_data, app_data, app_data, List.append_assoc]
theorem joinP_prefix (l : List ByteArray) (sep : ByteArray) (n m : Nat) (h : n ≤ m) : ∃ T : ByteArray, joinP l sep m = joinP l sep n ++ T := by
  induction m with
  | zero => obtain rfl : n = 0 := (by omega); exact ⟨⟨#[]⟩, (app_nil _).symm⟩
  | succ m ih =>
    by_cases e : n = m + 1
    · rw [e]; exact ⟨⟨#[]⟩, (app_nil _).symm⟩
    · obtain ⟨T, hT⟩ := ih (by omega)
      refine ⟨T ++ (if m = 0 then ⟨#[]⟩ else sep) ++ l.getD m ByteArray.empty, ?_⟩
      simp only [joinP]
      rw [hT, app_assoc, app_assoc, app_assoc]
theorem mid_extract (P x T : ByteArray) : ((P ++ x) ++ T).extract P.size (P.size + x.size) = x := by
  apply ba_ext
  rw [Lib.extract_data, app_data, app_data, List.append_assoc, ← data_length P, List.drop_left, Nat.add_sub_cancel_left, ← data_length x, List.take_left]
theorem mid_bt (P x T : ByteArray) (m : Nat) (h : m < x.size) : bt ((P ++ x) ++ T) ((P.size + m : Nat) : Int) = bt x (m : Int) := by
  rw [bt_append_left _ _ _ (by rw [ByteArray.size_append]; omega), bt_append_right]
theorem pcs_skip (s : ByteArray) (m : Nat) : ∀ (d a i : Nat), (∀ j, j < m → ¬ bt s ((i + j : Nat) : Int) = 47) → pcs s (m + d) a i = pcs s d a (i + m) := by
  induction m with
  | zero => intro d a i _; rw [Nat.zero_add, Nat.add_zero]
  | succ m ih =>
    intro d a i h
    rw [show m + 1 + d = (m + d) + 1 by omega]
    simp only [pcs]
    have h0 := h 0 (by omega)
    rw [Nat.add_zero] at h0
    rw [if_neg h0, ih d a (i + 1) (fun j hj => by have := h (j + 1) (by omega); rw [show i + 1 + j = i + (j + 1) by omega]; exact this), show i + 1 + m = i + (m + 1) by omega]
def flat (x : ByteArray) : Prop := ∀ m : Nat, m < x.size → ¬ bt x (m : Int) = 47
theorem pcs_join (l : List ByteArray) (hf : ∀ x ∈ l, flat x) (r : Nat) : ∀ (j : Nat) (P : ByteArray), j + r + 1 = l.length → P = joinP l slash j ++ (if j = 0 then ⟨#[]⟩ else slash) →
    P.size ≤ (joinAll l).size ∧ pcs (joinAll l) ((joinAll l).size - P.size) P.size P.size = l.drop j := by
  induction r with
  | zero =>
    intro j P hj hP
    have hx : flat (l.getD j ByteArray.empty) := by
      rw [List.getD_eq_getElem?_getD, List.getElem?_eq_getElem (by omega)]
      exact hf _ (List.getElem_mem _)
    have hs : joinAll l = P ++ l.getD j ByteArray.empty := by
      unfold joinAll
      rw [show l.length = j + 1 by omega, hP]; rfl
    have hsz : (joinAll l).size = P.size + (l.getD j ByteArray.empty).size := by rw [hs, ByteArray.size_append]
    refine ⟨by omega, ?_⟩
    have hsk := pcs_skip (joinAll l) (l.getD j ByteArray.empty).size 0 P.size P.size (fun m hm => by
      rw [hs, ← app_nil (P ++ l.getD j ByteArray.empty), mid_bt _ _ _ _ hm]; exact hx m hm)
    rw [show (joinAll l).size - P.size = (l.getD j ByteArray.empty).size + 0 by omega, hsk, drop_getD l ByteArray.empty j (by omega), List.drop_of_length_le (by omega)]
    simp only [pcs]
    rw [hs, ← app_nil (P ++ l.getD j ByteArray.empty), mid_extract]
  | succ r ih =>
    intro j P hj hP
    have hx : flat (l.getD j ByteArray.empty) := by
      rw [List.getD_eq_getElem?_getD, List.getElem?_eq_getElem (by omega)]
      exact hf _ (List.getElem_mem _)
    have h1 : joinP l slash (j + 1) = P ++ l.getD j ByteArray.empty := by rw [hP]; rfl
    have h2 : joinP l slash (j + 2) = ((P ++ l.getD j ByteArray.empty) ++ slash) ++ l.getD (j + 1) ByteArray.empty := by
      rw [← h1]; rfl
    obtain ⟨T, hT⟩ := joinP_prefix l slash (j + 2) l.length (by omega)
    obtain ⟨i1, i2⟩ := ih (j + 1) ((P ++ l.getD j ByteArray.empty) ++ slash) (by omega) (by rw [h1, if_neg (by omega)])
    obtain ⟨U, hU⟩ : ∃ U : ByteArray, joinAll l = (P ++ l.getD j ByteArray.empty) ++ (slash ++ U) := ⟨l.getD (j + 1) ByteArray.empty ++ T, by
      unfold joinAll; rw [hT, h2]; simp only [app_assoc]⟩
    have hs1 : slash.size = 1 := rfl
    have hsz2 : ((P ++ l.getD j ByteArray.empty) ++ slash).size = P.size + (l.getD j ByteArray.empty).size + 1 := by rw [ByteArray.size_append, ByteArray.size_append, hs1]
    rw [hsz2] at i1 i2
    refine ⟨by omega, ?_⟩
    have hsk := pcs_skip (joinAll l) (l.getD j ByteArray.empty).size ((joinAll l).size - P.size - (l.getD j ByteArray.empty).size) P.size P.size (fun m hm => by
      rw [hU, mid_bt _ _ _ _ hm]; exact hx m hm)
    have h47 : bt (joinAll l) ((P.size + (l.getD j ByteArray.empty).size : Nat) : Int) = 47 := by
      have := bt_append_right (P ++ l.getD j ByteArray.empty) (slash ++ U) 0
      rw [ByteArray.size_append, Nat.add_zero] at this
      rw [hU, this]
      have h3 := bt_append_left slash U 0 (by decide)
      rw [h3]; rfl
    rw [show (joinAll l).size - P.size = (l.getD j ByteArray.empty).size + ((joinAll l).size - P.size - (l.getD j ByteArray.empty).size) by omega, hsk, drop_getD l ByteArray.empty j (by omega)]
    obtain ⟨q, hq⟩ : ∃ q, (joinAll l).size - P.size - (l.getD j ByteArray.empty).size = q + 1 := ⟨(joinAll l).size - P.size - (l.getD j ByteArray.empty).size - 1, by omega⟩
    rw [hq]
    simp only [pcs]
    have hex : (joinAll l).extract P.size (P.size + (l.getD j ByteArray.empty).size) = l.getD j ByteArray.empty := by rw [hU, mid_extract]
    rw [if_pos h47, hex, ← i2]
    congr 2
    omega
theorem pieces_join (l : List ByteArray) (hf : ∀ x ∈ l, flat x) (hl : 0 < l.length) : pieces (joinAll l) = l := by
  have := (pcs_join l hf (l.length - 1) 0 ⟨#[]⟩ (by omega) (by rw [if_pos rfl]; rfl)).2
  have h0 : (⟨#[]⟩ : ByteArray).size = 0 := rfl
  rw [h0, Nat.sub_zero, List.drop_zero] at this
  exact this
theorem ok_facts (x : ByteArray) (h : okName x = true) : flat x ∧ ¬ x.toList = ([] : List UInt8) ∧ ¬ x.toList = ([46] : List UInt8) ∧ ¬ x.toList = ([46, 46] : List UInt8) ∧ x.size ≤ 255 := by
  unfold okName at h
  simp only [Bool.and_eq_true, Bool.not_eq_true', beq_eq_false_iff_ne, decide_eq_true_eq] at h
  obtain ⟨⟨⟨⟨h1, h2⟩, h3⟩, h4⟩, h5⟩ := h
  refine ⟨fun m hm h47 => ?_, h1, h3, h4, h2⟩
  obtain ⟨b, hb, hv⟩ := bt_get x m hm
  have hmem : b ∈ x.data.toList := by
    have : b ∈ x.data.toList.drop m := by rw [hb]; exact List.mem_cons_self
    exact List.mem_of_mem_drop this
  have := (nb_int b).mp (List.all_eq_true.mp h5 b hmem)
  omega
theorem joinAll_nil_iff (l : List ByteArray) (hok : l.all okName = true) : (joinAll l).size = 0 ↔ l.length = 0 := by
  have hs := joinAll_size l
  constructor
  · intro h
    by_cases z : l.length = 0
    · exact z
    · rw [if_neg z, h] at hs
      have h0 := (ok_facts (l.getD 0 ByteArray.empty) (by
        rw [List.getD_eq_getElem?_getD, List.getElem?_eq_getElem (by omega)]
        exact List.all_eq_true.mp hok _ (List.getElem_mem _))).2.1
      have h1 : sumP l 1 = (l.getD 0 ByteArray.empty).size := by simp [sumP]
      have h2 := sumP_le l 1 l.length (by omega)
      have h3 : ¬ (l.getD 0 ByteArray.empty).size = 0 := fun e => h0 ((toList_nil _).mpr e)
      omega
  · intro h
    rw [if_pos h] at hs
    omega
theorem parts_join (l : List ByteArray) (hok : l.all okName = true) (h64 : ¬ l.length > 64) (h4096 : ¬ (joinAll l).size > 4096) : parts (joinAll l) = (l, none) := by
  unfold parts
  rw [if_neg h4096]
  by_cases z : l.length = 0
  · rw [if_pos ((joinAll_nil_iff l hok).mpr z), List.eq_nil_of_length_eq_zero z]
  · rw [if_neg (fun e => z ((joinAll_nil_iff l hok).mp e)), pieces_join l (fun x hx => (ok_facts x (List.all_eq_true.mp hok x hx)).1) (by omega)]
    unfold partsOf
    rw [if_pos hok, if_neg h64]
theorem head_ok (l : List ByteArray) (hl : 0 < l.length) (hf : flat (l.getD 0 ByteArray.empty)) (hne : ¬ (l.getD 0 ByteArray.empty).size = 0) : ¬ (1 ≤ (joinAll l).size ∧ bt (joinAll l) 0 = 47) := by
  rintro ⟨_, h⟩
  obtain ⟨T, hT⟩ := joinP_prefix l slash 1 l.length (by omega)
  have e : joinP l slash 1 = l.getD 0 ByteArray.empty := by simp only [joinP, if_true, empty_app]
  have := bt_append_left (l.getD 0 ByteArray.empty) T 0 (by omega)
  unfold joinAll at h
  rw [hT, e] at h
  exact hf 0 (by omega) (this.symm.trans h)
theorem joinS_ok (l : List ByteArray) (h : (joinS l).2.isNone = true) : l.all okName = true ∧ ¬ l.length > 64 ∧ ¬ (joinAll l).size > 4096 ∧ joinS l = (joinAll l, none) := by
  unfold joinS at h ⊢
  by_cases c1 : l.all okName = true
  · rw [if_pos c1] at h ⊢
    by_cases c2 : l.length > 64
    · rw [if_pos c2] at h; cases h
    · rw [if_neg c2] at h ⊢
      by_cases c3 : (joinAll l).size > 4096
      · rw [if_pos c3] at h; cases h
      · rw [if_neg c3] at h ⊢
        exact ⟨c1, c2, c3, rfl⟩
  · rw [if_neg c1] at h; cases h
theorem safeL_self : ∀ (l acc : List ByteArray), l.all okName = true → safeL l acc = some (acc ++ l)
  | [], acc, _ => by rw [safeL, List.append_nil]
  | x :: l, acc, h => by
    rw [List.all_cons, Bool.and_eq_true] at h
    obtain ⟨_, h1, h2, h3, _⟩ := ok_facts x h.1
    rw [safeL, if_neg h3, if_neg h1, if_neg h2, safeL_self l _ h.2, List.append_assoc]; rfl
theorem safe_twice (s : ByteArray) (h : (safeS s).2.isNone = true) : ∃ acc : List ByteArray, acc.all okName = true ∧ acc.length ≤ 64 ∧ (joinAll acc).size ≤ 4096 ∧ 0 < acc.length ∧ safeS s = (joinAll acc, none) ∧
    safeS (joinAll acc) = (joinAll acc, none) ∧ parts (joinAll acc) = (acc, none) := by
  unfold safeS at h
  by_cases c : s.size = 0 ∨ bt s 0 = 47
  · rw [if_pos c] at h; cases h
  · rw [if_neg c] at h
    cases hl : safeL (pieces s) [] with
    | none => rw [hl] at h; cases h
    | some acc =>
      rw [hl] at h
      simp only at h
      by_cases z : acc.length = 0
      · rw [if_pos z] at h; cases h
      · rw [if_neg z] at h
        obtain ⟨o1, o2, o3, o4⟩ := joinS_ok acc h
        have hs : safeS s = (joinAll acc, none) := by
          unfold safeS
          rw [if_neg c, hl]
          simp only
          rw [if_neg z, o4]
        have hfl : ∀ x ∈ acc, flat x := fun x hx => (ok_facts x (List.all_eq_true.mp o1 x hx)).1
        have h0 : acc.getD 0 ByteArray.empty ∈ acc := by
          rw [List.getD_eq_getElem?_getD, List.getElem?_eq_getElem (by omega)]
          exact List.getElem_mem _
        have hne := (ok_facts _ (List.all_eq_true.mp o1 _ h0)).2.1
        have hh := head_ok acc (by omega) (hfl _ h0) (fun e => hne ((toList_nil _).mpr e))
        have hz : ¬ (joinAll acc).size = 0 := fun e => z ((joinAll_nil_iff acc o1).mp e)
        refine ⟨acc, o1, by omega, by omega, by omega, hs, ?_, parts_join acc o1 o2 o3⟩
        unfold safeS
        rw [if_neg (fun e => e.elim hz (fun e => hh ⟨by omega, e⟩)), pieces_join acc hfl (by omega), safeL_self acc [] o1, List.nil_append]
        simp only
        rw [if_neg z, o4]
theorem stripN_fuel (s : ByteArray) (n : Int) (hn : n ≤ 9223372036854775807) (d d' : Nat) (h : s.size < d) (h' : s.size < d') : stripN d s n = stripN d' s n := by
  have h1 := strip_loop n hn d (max d d') s 0 h (Nat.le_max_left _ _) (by omega)
  have h2 := strip_loop n hn d' (max d d') s 0 h' (Nat.le_max_right _ _) (by omega)
  rw [h1, Int.sub_zero] at h2
  exact Option.some.inj h2
theorem stripN_size (d : Nat) : ∀ (s : ByteArray) (n : Int), (stripN d s n).1.size ≤ s.size := by
  induction d with
  | zero => intro s n; show (⟨#[]⟩ : ByteArray).size ≤ _; exact Nat.zero_le _
  | succ d ih =>
    intro s n
    simp only [stripN]
    split
    · split
      · exact Nat.zero_le _
      · have := ih (s.extract (restAt s) s.size) (n - 1)
        rw [size_cut] at this
        omega
    · split
      · exact Nat.zero_le _
      · exact Nat.le_refl _
theorem slashAt_le (s : ByteArray) : slashAt s ≤ s.size := (fs_facts s s.size 0 (by omega)).2.1
theorem strip_law (d : Nat) : ∀ (s : ByteArray) (n : Int), s.size < d → 0 ≤ n → n ≤ 1000 →
    ((stripN d s n).2 = none → stripN ((stripN d s n).1.size + 1) (stripN d s n).1 1 = stripN d s (n + 1)) ∧ (¬ (stripN d s n).2 = none → ¬ (stripN d s (n + 1)).2 = none) := by
  induction d with
  | zero => intro s n h; omega
  | succ d ih =>
    intro s n h h0 hn
    have e2 : stripN (d + 1) s (n + 1) = if slashAt s = s.size then ((⟨#[]⟩ : ByteArray), some 32) else stripN d (s.extract (restAt s) s.size) n := by
      simp only [stripN]
      rw [if_pos (by omega), show n + 1 - 1 = n by omega]
    by_cases c : n > 0
    · have e1 : stripN (d + 1) s n = if slashAt s = s.size then ((⟨#[]⟩ : ByteArray), some 32) else stripN d (s.extract (restAt s) s.size) (n - 1) := by
        simp only [stripN]
        rw [if_pos c]
      by_cases z : slashAt s = s.size
      · rw [e1, e2, if_pos z, if_pos z]
        exact ⟨fun h => (by cases h), fun _ h => (by cases h)⟩
      · have hr := rest_lt s z
        have := ih (s.extract (restAt s) s.size) (n - 1) (by rw [size_cut]; omega) (by omega) (by omega)
        rw [show n - 1 + 1 = n by omega] at this
        rw [e1, e2, if_neg z, if_neg z]
        exact this
    · obtain rfl : n = 0 := by omega
      have e1 : stripN (d + 1) s 0 = if s.size = 0 then ((⟨#[]⟩ : ByteArray), some 32) else (s, none) := by
        simp only [stripN]
        rw [if_neg c]
      by_cases z : s.size = 0
      · have hs := slashAt_le s
        rw [e1, e2, if_pos z, if_pos (by omega)]
        exact ⟨fun h => (by cases h), fun _ h => (by cases h)⟩
      · rw [e1, if_neg z]
        exact ⟨fun _ => stripN_fuel s 1 (by omega) (s.size + 1) (d + 1) (by omega) h, fun h => absurd rfl h⟩
theorem stripS_nat (s : ByteArray) (n : Int) (h : 0 ≤ n) : stripS s n = stripN (s.size + 1) s n := by
  unfold stripS
  rw [if_neg (by omega), if_neg (by omega)]
theorem back_tail (k : Nat) (x0 : ByteArray) (x2 : Int) (hs : x0.size ≤ 4000000) (hk : 4000100 ≤ k) : ((path_Strip.f k x0 (mx 0 (mn x2 20))).bind fun bt179 => ((path_Strip.f k x0 ((mx 0 (mn x2 20)) + 1)).bind fun bt181 => (if bt179.2.isNone = true then ((path_Strip.f k bt179.1 1).bind fun bt184 => (if bt184.1.toList = bt181.1.toList then ((selvagelaw03_num.f bt184.2).bind fun t186 => ((selvagelaw03_num.f bt181.2).bind fun t187 => (if t186 = t187 then ((selvagelaw03_sure.f k).bind fun t188 => (some t188)) else (some false)))) else (some false))) else (if bt181.2.isNone = true then (some false) else ((selvagelaw03_sure.f k).bind fun t190 => (some t190)))))) = some true := by
  obtain ⟨m, hm, m0, m20⟩ : ∃ m, mx 0 (mn x2 20) = m ∧ 0 ≤ m ∧ m ≤ 20 := by
    refine ⟨_, rfl, ?_⟩
    unfold mx mn
    split <;> split <;> omega
  have law := strip_law (x0.size + 1) x0 m (by omega) m0 (by omega)
  have hsz := stripN_size (x0.size + 1) x0 m
  rw [← stripS_nat x0 m m0, ← stripS_nat x0 (m + 1) (by omega)] at law
  rw [← stripS_nat x0 m m0] at hsz
  have hsure : selvagelaw03_sure.f k = some true := sure_at (by omega)
  rw [hm, strip_at x0 m (by omega) (by omega) (by omega), strip_at x0 (m + 1) (by omega) (by omega) (by omega), Option.bind_some, Option.bind_some]
  by_cases h : (stripS x0 m).2 = none
  · have l1 := law.1 h
    rw [← stripS_nat _ 1 (by omega)] at l1
    rw [if_pos (by rw [h]; rfl), strip_at (stripS x0 m).1 1 (by omega) (by omega) (by omega), Option.bind_some, l1, if_pos rfl, num_at, Option.bind_some, Option.bind_some, if_pos rfl, hsure, Option.bind_some]
  · have l2 := law.2 h
    rw [if_neg (fun e => h (Option.isNone_iff_eq_none.mp e)), if_neg (fun e => l2 (Option.isNone_iff_eq_none.mp e)), hsure, Option.bind_some]
theorem back_loop (x0 : ByteArray) (x2 : Int) (hs : x0.size ≤ 4000000) (l : List ByteArray) (hl : l.length ≤ 4000000) (hok : l.all okName = true) (d : Nat) : ∀ (k i : Nat), i + d = l.length → 4000101 + d ≤ k →
    selvagelaw03_PathBack.l0 k x0 x2 l (i : Int) = some true := by
  induction d with
  | zero =>
    intro k i h hk
    obtain ⟨k, rfl⟩ : ∃ m, k = m + 1 := ⟨k - 1, by omega⟩
    simp only [selvagelaw03_PathBack.l0]
    rw [if_neg (by omega)]
    exact back_tail k x0 x2 hs (by omega)
  | succ d ih =>
    intro k i h hk
    obtain ⟨k, rfl⟩ : ∃ m, k = m + 1 := ⟨k - 1, by omega⟩
    have w1 : wrap64 ((i : Int) + 1) = ((i + 1 : Nat) : Int) := w_add i 1 (by omega)
    have hi : okName (l.getD i ByteArray.empty) = true := by
      rw [List.getD_eq_getElem?_getD, List.getElem?_eq_getElem (by omega)]
      exact List.all_eq_true.mp hok _ (List.getElem_mem _)
    simp only [selvagelaw03_PathBack.l0, w1, rd_nat, name_at, Option.bind_some]
    rw [if_pos (by omega), if_pos (by omega), if_pos hi, if_pos (show (none : Option Int).isNone = true from rfl)]
    exact ih k (i + 1) (by omega) (by omega)
theorem back_rest0 (k : Nat) (x0 : ByteArray) (x2 : Int) (hs : x0.size ≤ 1048576) (hk : 4000200 ≤ k) : ((path_Safe.f k x0).bind fun bt164 => (if bt164.2.isNone = true then ((path_Safe.f k bt164.1).bind fun bt167 => ((path_Parts.f k bt164.1).bind fun bt169 => (if bt167.2.isNone = true then (if bt167.1.toList = bt164.1.toList then (if bt169.2.isNone = true then ((path_Below.f (⟨#[]⟩ : ByteArray) bt164.1).bind fun t175 => (if t175 = true then (selvagelaw03_PathBack.j0 k x0 x2 bt169.1 ((bt169.1.length : Int) == 0)) else (selvagelaw03_PathBack.j0 k x0 x2 bt169.1 true))) else (selvagelaw03_PathBack.j0 k x0 x2 bt169.1 true)) else (selvagelaw03_PathBack.j0 k x0 x2 bt169.1 true)) else (selvagelaw03_PathBack.j0 k x0 x2 bt169.1 true)))) else ((path_Strip.f k x0 (mx 0 (mn x2 20))).bind fun bt191 => ((path_Strip.f k x0 ((mx 0 (mn x2 20)) + 1)).bind fun bt193 => (if bt191.2.isNone = true then ((path_Strip.f k bt191.1 1).bind fun bt196 => (if bt196.1.toList = bt193.1.toList then ((selvagelaw03_num.f bt196.2).bind fun t198 => ((selvagelaw03_num.f bt193.2).bind fun t199 => (if t198 = t199 then ((selvagelaw03_sure.f k).bind fun t200 => (some t200)) else (some false)))) else (some false))) else (if bt193.2.isNone = true then (some false) else ((selvagelaw03_sure.f k).bind fun t202 => (some t202)))))))) = some true := by
  rw [safe_at x0 hs (by omega), Option.bind_some]
  by_cases h : (safeS x0).2.isNone = true
  · obtain ⟨acc, o1, o2, o3, o4, e1, e2, e3⟩ := safe_twice x0 h
    have hb : path_Below.f (⟨#[]⟩ : ByteArray) (joinAll acc) = some true := by
      unfold path_Below.f
      rw [if_pos ((toList_nil _).mpr rfl)]
    rw [e1]
    simp only [safe_at (joinAll acc) (by omega) (show 3 * (joinAll acc).size + 10 ≤ k by omega), parts_at (joinAll acc) (show (joinAll acc).size + 2 ≤ k by omega), e2, e3, hb, Option.bind_some, Option.isNone_none, if_true]
    obtain ⟨k, rfl⟩ : ∃ m, k = m + 1 := ⟨k - 1, by omega⟩
    have z : ((acc.length : Int) == 0) = false := beq_eq_false_iff_ne.mpr (by omega)
    simp only [z, selvagelaw03_PathBack.j0]
    rw [if_neg (by simp)]
    exact back_loop x0 x2 (by omega) acc (by omega) o1 acc.length k 0 (by omega) (by omega)
  · rw [if_neg h]
    exact back_tail k x0 x2 (by omega) (by omega)
theorem back_rest1 (k : Nat) (x0 : ByteArray) (x2 : Int) (hs : x0.size ≤ 1048576) (hk : 4000200 ≤ k) : ((path_Safe.f k x0).bind fun bt203 => (if bt203.2.isNone = true then ((path_Safe.f k bt203.1).bind fun bt206 => ((path_Parts.f k bt203.1).bind fun bt208 => (if bt206.2.isNone = true then (if bt206.1.toList = bt203.1.toList then (if bt208.2.isNone = true then ((path_Below.f (⟨#[]⟩ : ByteArray) bt203.1).bind fun t214 => (if t214 = true then (selvagelaw03_PathBack.j2 k x0 x2 bt208.1 ((bt208.1.length : Int) == 0)) else (selvagelaw03_PathBack.j2 k x0 x2 bt208.1 true))) else (selvagelaw03_PathBack.j2 k x0 x2 bt208.1 true)) else (selvagelaw03_PathBack.j2 k x0 x2 bt208.1 true)) else (selvagelaw03_PathBack.j2 k x0 x2 bt208.1 true)))) else ((path_Strip.f k x0 (mx 0 (mn x2 20))).bind fun bt215 => ((path_Strip.f k x0 ((mx 0 (mn x2 20)) + 1)).bind fun bt217 => (if bt215.2.isNone = true then ((path_Strip.f k bt215.1 1).bind fun bt220 => (if bt220.1.toList = bt217.1.toList then ((selvagelaw03_num.f bt220.2).bind fun t222 => ((selvagelaw03_num.f bt217.2).bind fun t223 => (if t222 = t223 then ((selvagelaw03_sure.f k).bind fun t224 => (some t224)) else (some false)))) else (some false))) else (if bt217.2.isNone = true then (some false) else ((selvagelaw03_sure.f k).bind fun t226 => (some t226)))))))) = some true := by
  rw [safe_at x0 hs (by omega), Option.bind_some]
  by_cases h : (safeS x0).2.isNone = true
  · obtain ⟨acc, o1, o2, o3, o4, e1, e2, e3⟩ := safe_twice x0 h
    have hb : path_Below.f (⟨#[]⟩ : ByteArray) (joinAll acc) = some true := by
      unfold path_Below.f
      rw [if_pos ((toList_nil _).mpr rfl)]
    rw [e1]
    simp only [safe_at (joinAll acc) (by omega) (show 3 * (joinAll acc).size + 10 ≤ k by omega), parts_at (joinAll acc) (show (joinAll acc).size + 2 ≤ k by omega), e2, e3, hb, Option.bind_some, Option.isNone_none, if_true]
    obtain ⟨k, rfl⟩ : ∃ m, k = m + 1 := ⟨k - 1, by omega⟩
    have z : ((acc.length : Int) == 0) = false := beq_eq_false_iff_ne.mpr (by omega)
    simp only [z, selvagelaw03_PathBack.j2]
    rw [if_neg (by simp)]
    exact back_loop x0 x2 (by omega) acc (by omega) o1 acc.length k 0 (by omega) (by omega)
  · rw [if_neg h]
    exact back_tail k x0 x2 (by omega) (by omega)
theorem PathBack : ∀ (a0 : ByteArray) (l1 : List ByteArray) (a2 : Int), (Lit.int IntKind.i64 a2).wf = true → (a0.size + 1) + ((l1.map (·.size)).sum + l1.length + 1) + 1 ≤ 1048576 → ∃ k, selvagelaw03_PathBack.f k a0 l1 a2 = some true := by
  intro a0 l1 a2 _ hn
  have hs := sumP_sum l1
  obtain ⟨K, hK⟩ : ∃ K, K = 6000000 := ⟨_, rfl⟩
  refine ⟨K, ?_⟩
  unfold selvagelaw03_PathBack.f
  rw [join_at l1 (by omega) (by omega) (by omega), Option.bind_some]
  by_cases e0 : (joinS l1).2.isNone = true
  · obtain ⟨a1, a2', a3, a4⟩ := joinS_ok l1 e0
    rw [if_pos e0, a4, parts_at (joinAll l1) (by omega), Option.bind_some, parts_join l1 a1 a2' a3, if_pos (show ((l1, none) : List ByteArray × Option Int).2.isNone = true from rfl), same_at l1 (by omega) (by omega), Option.bind_some, if_pos rfl]
    exact back_rest0 K a0 a2 (by omega) (by omega)
  · rw [if_neg e0]
    exact back_rest1 K a0 a2 (by omega) (by omega)
end Go.Proofs.YtflkehpgkiomdaaDoor.Pure
