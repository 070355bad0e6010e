/-
  Lemmas of elder texts of this session (PureA), over this seat's print.
-/
import Derived.Test.YtfempodohmhhlaaDoorPureQ
import Derived.Lib.IndexAny
import Derived.Lib.IndexBytes
import Derived.Lib.IndexLaws
import Derived.Lib.CountLaws
import Derived.Lib.Split
import Derived.Lib.CutLaws
namespace Go.Proofs.YtfempodohmhhlaaDoor.Pure
open Go.RowKit Go.Proofs.YtfempodohmhhlaaDoor.Pp Go.Proofs.YtfempodohmhhlaaDoor.Ext Go.Proofs.YtfempodohmhhlaaDoorW.PrintWords Go.Proofs.YtfempodohmhhlaaDoorW.PrintLast
theorem bt_get (s : ByteArray) (i : Nat) (h : i < s.size) : ∃ b : UInt8, s.data.toList.drop i = b :: s.data.toList.drop (i + 1) ∧ bt s (i : Int) = (b.toNat : Int) := by
  have hl : i < s.data.toList.length := by rw [data_length]; exact h
  refine ⟨s.data.toList[i], List.drop_eq_getElem_cons hl, ?_⟩
  rw [bt_list, List.getD_eq_getElem?_getD, List.getElem?_eq_getElem hl]
  rfl
def nb (b : UInt8) : Bool := b != 47 && b != 0
theorem nb_int (b : UInt8) : nb b = true ↔ ¬ (b.toNat : Int) = 47 ∧ ¬ (b.toNat : Int) = 0 := by
  unfold nb
  rw [Bool.and_eq_true, bne_iff_ne, bne_iff_ne]
  have e1 : b = 47 ↔ (b.toNat : Int) = 47 := ⟨fun h => by rw [h]; rfl, fun h => UInt8.toNat_inj.mp (by have : (47 : UInt8).toNat = 47 := rfl; omega)⟩
  have e2 : b = 0 ↔ (b.toNat : Int) = 0 := ⟨fun h => by rw [h]; rfl, fun h => UInt8.toNat_inj.mp (by have : (0 : UInt8).toNat = 0 := rfl; omega)⟩
  rw [Ne, Ne, e1, e2]
def okName (s : ByteArray) : Bool :=
  !(s.toList == ([] : List UInt8)) && decide (s.size ≤ 255) && !(s.toList == ([46] : List UInt8)) && !(s.toList == ([46, 46] : List UInt8)) && s.data.toList.all nb
theorem indexAny_nb : ∀ l : List UInt8, decide (Lib.indexAny l [47, 0] ≥ 0) = !(l.all nb)
  | [] => rfl
  | b :: l => by
    have ih := indexAny_nb l
    have hge := Lib.indexAny_ge [47, 0] l
    unfold Lib.indexAny
    have hc : ([47, 0] : List UInt8).contains b = !(nb b) := by
      unfold nb
      cases h1 : b == 47 <;> cases h2 : b == 0 <;> simp_all
    rw [hc, List.all_cons]
    cases nb b with
    | false => simp
    | true =>
      simp only [Bool.not_true, Bool.true_and]
      rw [← ih]
      by_cases h : Lib.indexAny l [47, 0] = -1
      · rw [h]; rfl
      · have : (Lib.indexAny l [47, 0] == -1) = false := beq_eq_false_iff_ne.mpr h
        rw [this]
        simp only [Bool.false_eq_true, if_false]
        rw [Bool.eq_iff_iff, decide_eq_true_eq, decide_eq_true_eq]
        omega
theorem name_at (s : ByteArray) : path_Name.f s = some (if okName s = true then none else some 30) := by
  unfold path_Name.f okName
  by_cases h0 : s.toList = ([] : List UInt8)
  · rw [if_pos h0]; simp [h0]
  · rw [if_neg h0]
    by_cases h1 : (s.size : Int) > 255
    · have : ¬ s.size ≤ 255 := by omega
      rw [if_pos h1]; simp [this]
    · have h1' : s.size ≤ 255 := by omega
      rw [if_neg h1]
      by_cases h2 : s.toList = ([46] : List UInt8)
      · rw [if_pos h2]; simp [h2]
      · rw [if_neg h2]
        by_cases h3 : s.toList = ([46, 46] : List UInt8)
        · rw [if_pos h3]; simp [h3]
        · rw [if_neg h3]
          have hx : strings_IndexAny.f s (⟨#[47, 0]⟩ : ByteArray) = some (Lib.indexAny s.data.toList [47, 0]) := by
            unfold strings_IndexAny.f
            have hsz : (⟨#[47, 0]⟩ : ByteArray).size = 2 := rfl
            rw [hsz, if_pos]
            refine ⟨by omega, ?_⟩
            decide
          unfold strings_ContainsAny.f
          rw [hx]
          simp only [Option.bind_some, indexAny_nb]
          cases s.data.toList.all nb with
          | true => simp [h0, h1', h2, h3]
          | false => simp
theorem refname_loop (s : ByteArray) (hn : s.size ≤ 140737488351232) (d : Nat) : ∀ (k i : Nat), i + d = s.size → d < k → selvageref03_Name.l0 k s (i : Int) = some (if (s.data.toList.drop i).all nb = true then 0 else 30) := by
  induction d with
  | zero =>
    intro k i hd hk
    obtain ⟨k, rfl⟩ : ∃ m, k = m + 1 := ⟨k - 1, by omega⟩
    simp only [selvageref03_Name.l0]
    rw [if_neg (by omega), List.drop_of_length_le (by rw [data_length]; omega)]
    rfl
  | succ d ih =>
    intro k i hd hk
    obtain ⟨k, rfl⟩ : ∃ m, k = m + 1 := ⟨k - 1, by omega⟩
    obtain ⟨b, hb, hv⟩ := bt_get s i (by omega)
    have w1 : wrap64 ((i : Int) + 1) = ((i + 1 : Nat) : Int) := w_add i 1 (by omega)
    simp only [selvageref03_Name.l0, w1, hv]
    rw [if_pos (by omega), if_pos (by omega), hb, List.all_cons, ih k (i + 1) (by omega) (by omega)]
    by_cases h : nb b = true
    · have := (nb_int b).mp h
      rw [if_neg this.1, if_neg this.2, h, Bool.true_and]
    · have h' : ¬ (¬ (b.toNat : Int) = 47 ∧ ¬ (b.toNat : Int) = 0) := fun q => h ((nb_int b).mpr q)
      have hf : nb b = false := by simpa using h
      rw [hf, Bool.false_and]
      by_cases c : (b.toNat : Int) = 47
      · rw [if_pos c]; rfl
      · rw [if_neg c, if_pos (by omega)]; rfl
theorem refname_at (s : ByteArray) (hn : s.size ≤ 140737488351232) {k : Nat} (hk : s.size + 2 ≤ k) : selvageref03_Name.f k s = some (if okName s = true then 0 else 30) := by
  obtain ⟨k, rfl⟩ : ∃ m, k = m + 1 := ⟨k - 1, by omega⟩
  have jt : selvageref03_Name.j0 (k + 1) s true = some 30 := by simp [selvageref03_Name.j0]
  unfold selvageref03_Name.f okName
  by_cases h0 : s.toList = ([] : List UInt8)
  · rw [if_pos h0, jt]; simp [h0]
  · rw [if_neg h0]
    by_cases h2 : s.toList = ([46] : List UInt8)
    · rw [if_pos h2, jt]; simp [h2]
    · rw [if_neg h2]
      by_cases h3 : s.toList = ([46, 46] : List UInt8)
      · rw [if_pos h3, jt]; simp [h3]
      · rw [if_neg h3]
        by_cases h1 : (s.size : Int) > 255
        · have : ¬ s.size ≤ 255 := by omega
          rw [decide_eq_true h1, jt]; simp [this]
        · have h1' : s.size ≤ 255 := by omega
          rw [decide_eq_false h1]
          simp only [selvageref03_Name.j0]
          rw [if_neg (by simp)]
          have := refname_loop s hn s.size k 0 (by omega) (by omega)
          rw [show ((0 : Nat) : Int) = 0 from rfl] at this
          rw [this, List.drop_zero]
          simp [h0, h1', h2, h3]
def pcs (s : ByteArray) : Nat → Nat → Nat → List ByteArray
  | 0, a, i => [s.extract a i]
  | d + 1, a, i => if bt s (i : Int) = 47 then s.extract a i :: pcs s d (i + 1) (i + 1) else pcs s d a (i + 1)
def pieces (s : ByteArray) : List ByteArray := pcs s s.size 0 0
theorem pcs_length (s : ByteArray) (d : Nat) : ∀ a i, 1 ≤ (pcs s d a i).length ∧ (pcs s d a i).length ≤ d + 1 := by
  induction d with
  | zero => intro a i; simp [pcs]
  | succ d ih =>
    intro a i
    simp only [pcs]
    split
    · have := ih (i + 1) (i + 1)
      simp only [List.length_cons]; omega
    · have := ih a (i + 1)
      omega
theorem pieces_loop (s : ByteArray) (hn : s.size ≤ 4000000000) (d : Nat) : ∀ (k a i : Nat) (acc : List ByteArray), i + d = s.size → a ≤ i → acc.length ≤ i → d + 2 ≤ k →
    selvageref03_Pieces.l0 k s acc (a : Int) (i : Int) = some (acc ++ pcs s d a i) := by
  induction d with
  | zero =>
    intro k a i acc hd ha hacc hk
    obtain ⟨k, rfl⟩ : ∃ m, k = m + 2 := ⟨k - 2, by omega⟩
    have w1 : wrap64 ((i : Int) + 1) = ((i + 1 : Nat) : Int) := w_add i 1 (by omega)
    simp only [selvageref03_Pieces.l0, w1, Int.toNat_natCast]
    rw [if_pos (by omega), if_pos (by omega), if_pos (by omega), if_pos (by omega), if_pos (by omega), if_neg (by omega)]
    rfl
  | succ d ih =>
    intro k a i acc hd ha hacc hk
    obtain ⟨k, rfl⟩ : ∃ m, k = m + 1 := ⟨k - 1, by omega⟩
    have w1 : wrap64 ((i : Int) + 1) = ((i + 1 : Nat) : Int) := w_add i 1 (by omega)
    simp only [selvageref03_Pieces.l0, w1, Int.toNat_natCast, pcs]
    rw [if_pos (by omega), if_neg (by omega), if_pos (by omega), if_pos (by omega)]
    by_cases h : bt s (i : Int) = 47
    · rw [if_pos h, if_pos h, if_pos (by omega), if_pos (by omega), if_pos (by omega), ih k (i + 1) (i + 1) _ (by omega) (by omega) (by simp; omega) (by omega), List.append_assoc]
      rfl
    · rw [if_neg h, if_neg h]
      exact ih k a (i + 1) acc (by omega) (by omega) (by omega) (by omega)
theorem pieces_at (s : ByteArray) (hn : s.size ≤ 4000000000) {k : Nat} (hk : s.size + 2 ≤ k) : selvageref03_Pieces.f k s = some (pieces s) := by
  have := pieces_loop s hn s.size k 0 0 [] (by omega) (by omega) (by simp) hk
  rw [show ((0 : Nat) : Int) = 0 from rfl] at this
  unfold selvageref03_Pieces.f
  rw [this]; rfl
def slash : ByteArray := ⟨#[47]⟩
theorem indexB_slash (t : ByteArray) : Lib.indexB t slash = Lib.indexByte t.data.toList 47 := Lib.index_one t.data.toList 47
theorem no_slash (s : ByteArray) (a i j : Nat) (hs : ∀ m, a ≤ m → m < i → ¬ bt s (m : Int) = 47) (hi : i ≤ s.size) (hj : a + j < i) : (s.extract a s.size).data.toList[j]? ≠ some 47 := by
  intro he
  have hb := hs (a + j) (by omega) (by omega)
  rw [Lib.extract_data, List.getElem?_take, if_pos (by omega), List.getElem?_drop] at he
  rw [bt_list, List.getD_eq_getElem?_getD, he] at hb
  exact hb rfl
theorem index_here (s : ByteArray) (a i : Nat) (ha : a ≤ i) (hi : i < s.size) (hs : ∀ m, a ≤ m → m < i → ¬ bt s (m : Int) = 47) (h47 : bt s (i : Int) = 47) : Lib.indexB (s.extract a s.size) slash = ((i - a : Nat) : Int) := by
  rw [indexB_slash]
  have hge := Lib.indexByte_ge (s.extract a s.size).data.toList 47
  have hat : (s.extract a s.size).data.toList[i - a]? = some 47 := by
    obtain ⟨b, hb, hv⟩ := bt_get s i hi
    rw [Lib.extract_data, List.getElem?_take, if_pos (by omega), List.getElem?_drop, show a + (i - a) = i by omega]
    have e : s.data.toList[i]? = some b := by
      have := congrArg List.head? hb
      rw [List.head?_drop] at this
      exact this
    rw [e]
    congr 1
    exact UInt8.toNat_inj.mp (by have : (47 : UInt8).toNat = 47 := rfl; omega)
  rcases (by omega : Lib.indexByte (s.extract a s.size).data.toList 47 < 0 ∨ 0 ≤ Lib.indexByte (s.extract a s.size).data.toList 47) with h | h
  · exact absurd hat (Lib.indexByte_none (by omega) (i - a))
  · obtain ⟨o, ho⟩ : ∃ o : Nat, Lib.indexByte (s.extract a s.size).data.toList 47 = o := ⟨_, (Int.toNat_of_nonneg h).symm⟩
    obtain ⟨h1, h2⟩ := Lib.indexByte_some ho
    rcases Nat.lt_trichotomy o (i - a) with hc | hc | hc
    · exact absurd h1 (no_slash s a i o hs (by omega) (by omega))
    · rw [ho, hc]
    · exact absurd hat (h2 (i - a) hc)
theorem split_pcs (s : ByteArray) (d : Nat) : ∀ (a i : Nat), i + d = s.size → a ≤ i → (∀ m, a ≤ m → m < i → ¬ bt s (m : Int) = 47) →
    Lib.splitB slash 0 (Lib.countB (s.extract a s.size) slash) (s.extract a s.size) = pcs s d a i := by
  induction d with
  | zero =>
    intro a i hd ha hs
    obtain rfl : i = s.size := by omega
    have hmiss : Lib.indexB (s.extract a s.size) slash = -1 := by
      rw [indexB_slash]
      have hge := Lib.indexByte_ge (s.extract a s.size).data.toList 47
      rcases (by omega : Lib.indexByte (s.extract a s.size).data.toList 47 < 0 ∨ 0 ≤ Lib.indexByte (s.extract a s.size).data.toList 47) with h | h
      · omega
      · obtain ⟨o, ho⟩ : ∃ o : Nat, Lib.indexByte (s.extract a s.size).data.toList 47 = o := ⟨_, (Int.toNat_of_nonneg h).symm⟩
        obtain ⟨h1, _⟩ := Lib.indexByte_some ho
        have hlt : o < s.size - a := by
          have := (List.getElem?_eq_some_iff.mp h1).1
          rw [data_length, size_cut] at this
          exact this
        exact absurd h1 (no_slash s a s.size o hs (Nat.le_refl _) (by omega))
    rw [Lib.countB_miss _ _ hmiss]
    rfl
  | succ d ih =>
    intro a i hd ha hs
    simp only [pcs]
    by_cases h : bt s (i : Int) = 47
    · rw [if_pos h]
      have hix := index_here s a i ha (by omega) hs h
      have hsz : slash.size = 1 := rfl
      rw [Lib.countB_hit _ _ (i - a) (by rw [hsz]; exact Nat.le_refl 1) hix, Nat.add_comm 1, Lib.splitB_hit _ _ _ _ (i - a) hix, hsz, size_cut, Nat.add_zero]
      have e1 : (s.extract a s.size).extract (i - a + 1) (s.size - a) = s.extract (i + 1) s.size := by
        rw [ext_ext s a s.size _ _ (by omega), show a + (i - a + 1) = i + 1 by omega, show a + (s.size - a) = s.size by omega]
      have e2 : (s.extract a s.size).extract 0 (i - a) = s.extract a i := by
        rw [ext_ext s a s.size _ _ (by omega), Nat.add_zero, show a + (i - a) = i by omega]
      rw [e1, e2, ih (i + 1) (i + 1) (by omega) (Nat.le_refl _) (fun m h1 h2 => by omega)]
    · rw [if_neg h]
      refine ih a (i + 1) (by omega) (by omega) (fun m h1 h2 => ?_)
      by_cases e : m = i
      · rw [e]; exact h
      · exact hs m h1 (by omega)
theorem split_at (s : ByteArray) (hn : s.size ≤ 4000000000) : strings_Split.f s (⟨#[47]⟩ : ByteArray) = some (pieces s) := by
  unfold strings_Split.f
  have hsz : (⟨#[47]⟩ : ByteArray).size = 1 := rfl
  rw [hsz, if_pos (by omega)]
  have := split_pcs s s.size 0 0 (by omega) (by omega) (fun m _ h => by omega)
  rw [ext_all] at this
  rw [show (⟨#[47]⟩ : ByteArray) = slash from rfl, this]; rfl
def partsOf (l : List ByteArray) : List ByteArray × Option Int :=
  if l.all okName = true then (if l.length > 64 then ([], some 2) else (l, none)) else ([], some 30)
def parts (s : ByteArray) : List ByteArray × Option Int :=
  if s.size > 4096 then ([], some 2) else if s.size = 0 then ([], none) else partsOf (pieces s)
theorem drop_getD {α : Type} (l : List α) (d : α) (i : Nat) (h : i < l.length) : l.drop i = l.getD i d :: l.drop (i + 1) := by
  rw [List.getD_eq_getElem?_getD, List.getElem?_eq_getElem h]
  exact List.drop_eq_getElem_cons h
theorem errNum_eq (o : Option Int) : o.getD 0 = errNum o := by cases o <;> rfl
theorem parts_loop (l : List ByteArray) (hn : l.length ≤ 4000000000) (d : Nat) : ∀ (k i : Nat), i + d = l.length → d < k →
    path_Parts.l0 k l l (l.length : Int) (i : Int) = some (if (l.drop i).all okName = true then (if l.length > 64 then ([], some 2) else (l, none)) else ([], some 30)) := by
  induction d with
  | zero =>
    intro k i hd hk
    obtain ⟨k, rfl⟩ : ∃ m, k = m + 1 := ⟨k - 1, by omega⟩
    simp only [path_Parts.l0]
    rw [if_neg (by omega), List.drop_of_length_le (by omega)]
    by_cases h : l.length > 64
    · rw [if_pos (by omega), if_pos h]; rfl
    · rw [if_neg (by omega), if_neg h]; rfl
  | succ d ih =>
    intro k i hd hk
    obtain ⟨k, rfl⟩ : ∃ m, k = m + 1 := ⟨k - 1, by omega⟩
    have w1 : wrap64 ((i : Int) + 1) = ((i + 1 : Nat) : Int) := w_add i 1 (by omega)
    simp only [path_Parts.l0, w1, rd_nat, name_at, Option.bind_some]
    rw [if_pos (by omega), if_pos (by omega), if_pos (by omega), ih k (i + 1) (by omega) (by omega), drop_getD l ByteArray.empty i (by omega), List.all_cons]
    cases okName (l.getD i ByteArray.empty) with
    | true => simp
    | false => simp
theorem parts_at (s : ByteArray) {k : Nat} (hk : s.size + 2 ≤ k) : path_Parts.f k s = some (parts s) := by
  unfold path_Parts.f parts
  by_cases h : s.size > 4096
  · rw [if_pos (by omega), if_pos h]
  · rw [if_neg (by omega), if_neg h]
    by_cases h0 : s.size = 0
    · rw [if_pos ((toList_nil s).mpr h0), if_pos h0]
    · rw [if_neg (fun e => h0 ((toList_nil s).mp e)), if_neg h0, split_at s (by omega)]
      simp only [Option.bind_some]
      have hl := pcs_length s s.size 0 0
      have := parts_loop (pieces s) (by unfold pieces; omega) (pieces s).length k 0 (by omega) (by unfold pieces; omega)
      rw [show ((0 : Nat) : Int) = 0 from rfl, List.drop_zero] at this
      rw [this]; rfl
theorem refparts_loop (l : List ByteArray) (hn : l.length ≤ 4000000000) (M : Nat) (hM : ∀ x ∈ l, x.size ≤ M) (hM2 : M ≤ 4000000000) (d : Nat) : ∀ (k i : Nat), i + d = l.length → d + M + 2 < k →
    selvageref03_Parts.l0 k l (i : Int) = some (if (l.drop i).all okName = true then (if l.length > 64 then ([], 2) else (l, 0)) else ([], 30)) := by
  induction d with
  | zero =>
    intro k i hd hk
    obtain ⟨k, rfl⟩ : ∃ m, k = m + 1 := ⟨k - 1, by omega⟩
    simp only [selvageref03_Parts.l0]
    rw [if_neg (by omega), List.drop_of_length_le (by omega)]
    by_cases h : l.length > 64
    · rw [if_pos (by omega), if_pos h]; rfl
    · rw [if_neg (by omega), if_neg h]; rfl
  | succ d ih =>
    intro k i hd hk
    obtain ⟨k, rfl⟩ : ∃ m, k = m + 1 := ⟨k - 1, by omega⟩
    have w1 : wrap64 ((i : Int) + 1) = ((i + 1 : Nat) : Int) := w_add i 1 (by omega)
    have hm : (l.getD i ByteArray.empty).size ≤ M := by
      rw [List.getD_eq_getElem?_getD, List.getElem?_eq_getElem (by omega)]
      exact hM _ (List.getElem_mem _)
    simp only [selvageref03_Parts.l0, w1, rd_nat]
    rw [if_pos (by omega), if_pos (by omega), refname_at _ (by omega) (by omega)]
    simp only [Option.bind_some]
    rw [ih k (i + 1) (by omega) (by omega), drop_getD l ByteArray.empty i (by omega), List.all_cons]
    cases okName (l.getD i ByteArray.empty) with
    | true => simp
    | false => simp
theorem pcs_sizes (s : ByteArray) (d : Nat) : ∀ a i, ∀ x ∈ pcs s d a i, x.size ≤ s.size := by
  have he : ∀ a i, (s.extract a i).size ≤ s.size := fun a i => by rw [ByteArray.size_extract]; omega
  induction d with
  | zero => intro a i x hx; simp only [pcs, List.mem_singleton] at hx; rw [hx]; exact he a i
  | succ d ih =>
    intro a i x hx
    simp only [pcs] at hx
    split at hx
    · rcases List.mem_cons.mp hx with rfl | hx
      · exact he a i
      · exact ih _ _ x hx
    · exact ih _ _ x hx
theorem refparts_at (s : ByteArray) {k : Nat} (hk : 2 * s.size + 5 ≤ k) : selvageref03_Parts.f k s = some ((parts s).1, errNum (parts s).2) := by
  unfold selvageref03_Parts.f parts
  by_cases h : s.size > 4096
  · rw [if_pos (by omega), if_pos h]; rfl
  · rw [if_neg (by omega), if_neg h]
    by_cases h0 : s.size = 0
    · rw [if_pos ((toList_nil s).mpr h0), if_pos h0]; rfl
    · rw [if_neg (fun e => h0 ((toList_nil s).mp e)), if_neg h0, pieces_at s (by omega) (by omega)]
      simp only [Option.bind_some]
      have hl := pcs_length s s.size 0 0
      have := refparts_loop (pieces s) (by unfold pieces; omega) s.size (pcs_sizes s s.size 0 0) (by omega) (pieces s).length k 0 (by omega) (by unfold pieces; omega)
      rw [show ((0 : Nat) : Int) = 0 from rfl, List.drop_zero] at this
      rw [this]
      unfold partsOf
      split
      · split <;> rfl
      · rfl
end Go.Proofs.YtfempodohmhhlaaDoor.Pure
