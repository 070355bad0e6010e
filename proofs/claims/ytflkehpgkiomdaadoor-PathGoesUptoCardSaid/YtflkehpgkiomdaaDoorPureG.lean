/-
  path, in plain Lean, over the smaller print: names, parts, Join, Rel, Go; the law PathRels. By program (gpure.py) out of the texts over the greater print.
-/
import Derived.Test.YtflkehpgkiomdaaDoorEPure
import Derived.Lib.IndexAny
import Derived.Lib.IndexBytes
import Derived.Lib.IndexLaws
import Derived.Lib.CountLaws
import Derived.Lib.Split
import Derived.Lib.CutLaws
import Derived.Test.YtflkehpgkiomdaaDoorPg5
namespace Go.Proofs.YtflkehpgkiomdaaDoor.Pure
open Go.RowKit Go.Proofs.YtflkehpgkiomdaaDoor.Pg Go.Proofs.YtflkehpgkiomdaaDoor.Ext Go.Proofs.YtflkehpgkiomdaaDoorW.PrintWords Go.Proofs.YtflkehpgkiomdaaDoorW.PrintLast

/-! ### names -/
theorem bt_get (s : ByteArray) (i : Nat) (h : i < s.size) : ∃ b : UInt8, s.data.toList.drop i = b :: s.data.toList.drop (i + 1) ∧ bt s (i : Int) = (b.toNat : Int) := by
  have hl : i < s.data.toList.length := by rw [data_length]; exact h
  refine ⟨s.data.toList[i], List.drop_eq_getElem_cons hl, ?_⟩
  rw [bt_list, List.getD_eq_getElem?_getD, List.getElem?_eq_getElem hl]
  rfl
def nb (b : UInt8) : Bool := b != 47 && b != 0
theorem nb_int (b : UInt8) : nb b = true ↔ ¬ (b.toNat : Int) = 47 ∧ ¬ (b.toNat : Int) = 0 := by
  unfold nb
  rw [Bool.and_eq_true, bne_iff_ne, bne_iff_ne]
  have e1 : b = 47 ↔ (b.toNat : Int) = 47 := ⟨fun h => by rw [h]; rfl, fun h => UInt8.toNat_inj.mp (by have : (47 : UInt8).toNat = 47 := rfl; omega)⟩
  have e2 : b = 0 ↔ (b.toNat : Int) = 0 := ⟨fun h => by rw [h]; rfl, fun h => UInt8.toNat_inj.mp (by have : (0 : UInt8).toNat = 0 := rfl; omega)⟩
  rw [Ne, Ne, e1, e2]
/-- may something be called so? -/
def okName (s : ByteArray) : Bool :=
  !(s.toList == ([] : List UInt8)) && decide (s.size ≤ 255) && !(s.toList == ([46] : List UInt8)) && !(s.toList == ([46, 46] : List UInt8)) && s.data.toList.all nb
theorem indexAny_nb : ∀ l : List UInt8, decide (Lib.indexAny l [47, 0] ≥ 0) = !(l.all nb)
  | [] => rfl
  | b :: l => by
    have ih := indexAny_nb l
    have hge := Lib.indexAny_ge [47, 0] l
    unfold Lib.indexAny
    have hc : ([47, 0] : List UInt8).contains b = !(nb b) := by
      unfold nb
      cases h1 : b == 47 <;> cases h2 : b == 0 <;> simp_all
    rw [hc, List.all_cons]
    cases nb b with
    | false => simp
    | true =>
      simp only [Bool.not_true, Bool.true_and]
      rw [← ih]
      by_cases h : Lib.indexAny l [47, 0] = -1
      · rw [h]; rfl
      · have : (Lib.indexAny l [47, 0] == -1) = false := beq_eq_false_iff_ne.mpr h
        rw [this]
        simp only [Bool.false_eq_true, if_false]
        rw [Bool.eq_iff_iff, decide_eq_true_eq, decide_eq_true_eq]
        omega
theorem name_at (s : ByteArray) : path_Name.f s = some (if okName s = true then none else some 30) := by
  unfold path_Name.f okName
  by_cases h0 : s.toList = ([] : List UInt8)
  · rw [if_pos h0]; simp [h0]
  · rw [if_neg h0]
    by_cases h1 : (s.size : Int) > 255
    · have : ¬ s.size ≤ 255 := by omega
      rw [if_pos h1]; simp [this]
    · have h1' : s.size ≤ 255 := by omega
      rw [if_neg h1]
      by_cases h2 : s.toList = ([46] : List UInt8)
      · rw [if_pos h2]; simp [h2]
      · rw [if_neg h2]
        by_cases h3 : s.toList = ([46, 46] : List UInt8)
        · rw [if_pos h3]; simp [h3]
        · rw [if_neg h3]
          have hx : strings_IndexAny.f s (⟨#[47, 0]⟩ : ByteArray) = some (Lib.indexAny s.data.toList [47, 0]) := by
            unfold strings_IndexAny.f
            have hsz : (⟨#[47, 0]⟩ : ByteArray).size = 2 := rfl
            rw [hsz, if_pos]
            refine ⟨by omega, ?_⟩
            decide
          unfold strings_ContainsAny.f
          rw [hx]
          simp only [Option.bind_some, indexAny_nb]
          cases s.data.toList.all nb with
          | true => simp [h0, h1', h2, h3]
          | false => simp
theorem refname_loop (s : ByteArray) (hn : s.size ≤ 140737488351232) (d : Nat) : ∀ (k i : Nat), i + d = s.size → d < k → selvageref03_Name.l0 k s (i : Int) = some (if (s.data.toList.drop i).all nb = true then 0 else 30) := by
  induction d with
  | zero =>
    intro k i hd hk
    obtain ⟨k, rfl⟩ : ∃ m, k = m + 1 := ⟨k - 1, by omega⟩
    simp only [selvageref03_Name.l0]
    rw [if_neg (by omega), List.drop_of_length_le (by rw [data_length]; omega)]
    rfl
  | succ d ih =>
    intro k i hd hk
    obtain ⟨k, rfl⟩ : ∃ m, k = m + 1 := ⟨k - 1, by omega⟩
    obtain ⟨b, hb, hv⟩ := bt_get s i (by omega)
    have w1 : wrap64 ((i : Int) + 1) = ((i + 1 : Nat) : Int) := w_add i 1 (by omega)
    simp only [selvageref03_Name.l0, w1, hv]
    rw [if_pos (by omega), if_pos (by omega), hb, List.all_cons, ih k (i + 1) (by omega) (by omega)]
    by_cases h : nb b = true
    · have := (nb_int b).mp h
      rw [if_neg this.1, if_neg this.2, h, Bool.true_and]
    · have h' : ¬ (¬ (b.toNat : Int) = 47 ∧ ¬ (b.toNat : Int) = 0) := fun q => h ((nb_int b).mpr q)
      have hf : nb b = false := by simpa using h
      rw [hf, Bool.false_and]
      by_cases c : (b.toNat : Int) = 47
      · rw [if_pos c]; rfl
      · rw [if_neg c, if_pos (by omega)]; rfl
theorem refname_at (s : ByteArray) (hn : s.size ≤ 140737488351232) {k : Nat} (hk : s.size + 2 ≤ k) : selvageref03_Name.f k s = some (if okName s = true then 0 else 30) := by
  obtain ⟨k, rfl⟩ : ∃ m, k = m + 1 := ⟨k - 1, by omega⟩
  have jt : selvageref03_Name.j0 (k + 1) s true = some 30 := by simp [selvageref03_Name.j0]
  unfold selvageref03_Name.f okName
  by_cases h0 : s.toList = ([] : List UInt8)
  · rw [if_pos h0, jt]; simp [h0]
  · rw [if_neg h0]
    by_cases h2 : s.toList = ([46] : List UInt8)
    · rw [if_pos h2, jt]; simp [h2]
    · rw [if_neg h2]
      by_cases h3 : s.toList = ([46, 46] : List UInt8)
      · rw [if_pos h3, jt]; simp [h3]
      · rw [if_neg h3]
        by_cases h1 : (s.size : Int) > 255
        · have : ¬ s.size ≤ 255 := by omega
          rw [decide_eq_true h1, jt]; simp [this]
        · have h1' : s.size ≤ 255 := by omega
          rw [decide_eq_false h1]
          simp only [selvageref03_Name.j0]
          rw [if_neg (by simp)]
          have := refname_loop s hn s.size k 0 (by omega) (by omega)
          rw [show ((0 : Nat) : Int) = 0 from rfl] at this
          rw [this, List.drop_zero]
          simp [h0, h1', h2, h3]

/-! ### pieces between slashes -/
def pcs (s : ByteArray) : Nat → Nat → Nat → List ByteArray
  | 0, a, i => [s.extract a i]
  | d + 1, a, i => if bt s (i : Int) = 47 then s.extract a i :: pcs s d (i + 1) (i + 1) else pcs s d a (i + 1)
def pieces (s : ByteArray) : List ByteArray := pcs s s.size 0 0
theorem pcs_length (s : ByteArray) (d : Nat) : ∀ a i, 1 ≤ (pcs s d a i).length ∧ (pcs s d a i).length ≤ d + 1 := by
  induction d with
  | zero => intro a i; simp [pcs]
  | succ d ih =>
    intro a i
    simp only [pcs]
    split
    · have := ih (i + 1) (i + 1)
      simp only [List.length_cons]; omega
    · have := ih a (i + 1)
      omega
theorem pieces_loop (s : ByteArray) (hn : s.size ≤ 4000000000) (d : Nat) : ∀ (k a i : Nat) (acc : List ByteArray), i + d = s.size → a ≤ i → acc.length ≤ i → d + 2 ≤ k →
    selvageref03_Pieces.l0 k s acc (a : Int) (i : Int) = some (acc ++ pcs s d a i) := by
  induction d with
  | zero =>
    intro k a i acc hd ha hacc hk
    obtain ⟨k, rfl⟩ : ∃ m, k = m + 2 := ⟨k - 2, by omega⟩
    have w1 : wrap64 ((i : Int) + 1) = ((i + 1 : Nat) : Int) := w_add i 1 (by omega)
    simp only [selvageref03_Pieces.l0, w1, Int.toNat_natCast]
    rw [if_pos (by omega), if_pos (by omega), if_pos (by omega), if_pos (by omega), if_pos (by omega), if_neg (by omega)]
    rfl
  | succ d ih =>
    intro k a i acc hd ha hacc hk
    obtain ⟨k, rfl⟩ : ∃ m, k = m + 1 := ⟨k - 1, by omega⟩
    have w1 : wrap64 ((i : Int) + 1) = ((i + 1 : Nat) : Int) := w_add i 1 (by omega)
    simp only [selvageref03_Pieces.l0, w1, Int.toNat_natCast, pcs]
    rw [if_pos (by omega), if_neg (by omega), if_pos (by omega), if_pos (by omega)]
    by_cases h : bt s (i : Int) = 47
    · rw [if_pos h, if_pos h, if_pos (by omega), if_pos (by omega), if_pos (by omega), ih k (i + 1) (i + 1) _ (by omega) (by omega) (by simp; omega) (by omega), List.append_assoc]
      rfl
    · rw [if_neg h, if_neg h]
      exact ih k a (i + 1) acc (by omega) (by omega) (by omega) (by omega)
theorem pieces_at (s : ByteArray) (hn : s.size ≤ 4000000000) {k : Nat} (hk : s.size + 2 ≤ k) : selvageref03_Pieces.f k s = some (pieces s) := by
  have := pieces_loop s hn s.size k 0 0 [] (by omega) (by omega) (by simp) hk
  rw [show ((0 : Nat) : Int) = 0 from rfl] at this
  unfold selvageref03_Pieces.f
  rw [this]; rfl
def slash : ByteArray := ⟨#[47]⟩
theorem indexB_slash (t : ByteArray) : Lib.indexB t slash = Lib.indexByte t.data.toList 47 := Lib.index_one t.data.toList 47
theorem no_slash (s : ByteArray) (a i j : Nat) (hs : ∀ m, a ≤ m → m < i → ¬ bt s (m : Int) = 47) (hi : i ≤ s.size) (hj : a + j < i) : (s.extract a s.size).data.toList[j]? ≠ some 47 := by
  intro he
  have hb := hs (a + j) (by omega) (by omega)
  rw [Lib.extract_data, List.getElem?_take, if_pos (by omega), List.getElem?_drop] at he
  rw [bt_list, List.getD_eq_getElem?_getD, he] at hb
  exact hb rfl
theorem index_here (s : ByteArray) (a i : Nat) (ha : a ≤ i) (hi : i < s.size) (hs : ∀ m, a ≤ m → m < i → ¬ bt s (m : Int) = 47) (h47 : bt s (i : Int) = 47) : Lib.indexB (s.extract a s.size) slash = ((i - a : Nat) : Int) := by
  rw [indexB_slash]
  have hge := Lib.indexByte_ge (s.extract a s.size).data.toList 47
  have hat : (s.extract a s.size).data.toList[i - a]? = some 47 := by
    obtain ⟨b, hb, hv⟩ := bt_get s i hi
    rw [Lib.extract_data, List.getElem?_take, if_pos (by omega), List.getElem?_drop, show a + (i - a) = i by omega]
    have e : s.data.toList[i]? = some b := by
      have := congrArg List.head? hb
      rw [List.head?_drop] at this
      exact this
    rw [e]
    congr 1
    exact UInt8.toNat_inj.mp (by have : (47 : UInt8).toNat = 47 := rfl; omega)
  rcases (by omega : Lib.indexByte (s.extract a s.size).data.toList 47 < 0 ∨ 0 ≤ Lib.indexByte (s.extract a s.size).data.toList 47) with h | h
  · exact absurd hat (Lib.indexByte_none (by omega) (i - a))
  · obtain ⟨o, ho⟩ : ∃ o : Nat, Lib.indexByte (s.extract a s.size).data.toList 47 = o := ⟨_, (Int.toNat_of_nonneg h).symm⟩
    obtain ⟨h1, h2⟩ := Lib.indexByte_some ho
    rcases Nat.lt_trichotomy o (i - a) with hc | hc | hc
    · exact absurd h1 (no_slash s a i o hs (by omega) (by omega))
    · rw [ho, hc]
    · exact absurd hat (h2 (i - a) hc)
theorem split_pcs (s : ByteArray) (d : Nat) : ∀ (a i : Nat), i + d = s.size → a ≤ i → (∀ m, a ≤ m → m < i → ¬ bt s (m : Int) = 47) →
    Lib.splitB slash 0 (Lib.countB (s.extract a s.size) slash) (s.extract a s.size) = pcs s d a i := by
  induction d with
  | zero =>
    intro a i hd ha hs
    obtain rfl : i = s.size := by omega
    have hmiss : Lib.indexB (s.extract a s.size) slash = -1 := by
      rw [indexB_slash]
      have hge := Lib.indexByte_ge (s.extract a s.size).data.toList 47
      rcases (by omega : Lib.indexByte (s.extract a s.size).data.toList 47 < 0 ∨ 0 ≤ Lib.indexByte (s.extract a s.size).data.toList 47) with h | h
      · omega
      · obtain ⟨o, ho⟩ : ∃ o : Nat, Lib.indexByte (s.extract a s.size).data.toList 47 = o := ⟨_, (Int.toNat_of_nonneg h).symm⟩
        obtain ⟨h1, _⟩ := Lib.indexByte_some ho
        have hlt : o < s.size - a := by
          have := (List.getElem?_eq_some_iff.mp h1).1
          rw [data_length, size_cut] at this
          exact this
        exact absurd h1 (no_slash s a s.size o hs (Nat.le_refl _) (by omega))
    rw [Lib.countB_miss _ _ hmiss]
    rfl
  | succ d ih =>
    intro a i hd ha hs
    simp only [pcs]
    by_cases h : bt s (i : Int) = 47
    · rw [if_pos h]
      have hix := index_here s a i ha (by omega) hs h
      have hsz : slash.size = 1 := rfl
      rw [Lib.countB_hit _ _ (i - a) (by rw [hsz]; exact Nat.le_refl 1) hix, Nat.add_comm 1, Lib.splitB_hit _ _ _ _ (i - a) hix, hsz, size_cut, Nat.add_zero]
      have e1 : (s.extract a s.size).extract (i - a + 1) (s.size - a) = s.extract (i + 1) s.size := by
        rw [ext_ext s a s.size _ _ (by omega), show a + (i - a + 1) = i + 1 by omega, show a + (s.size - a) = s.size by omega]
      have e2 : (s.extract a s.size).extract 0 (i - a) = s.extract a i := by
        rw [ext_ext s a s.size _ _ (by omega), Nat.add_zero, show a + (i - a) = i by omega]
      rw [e1, e2, ih (i + 1) (i + 1) (by omega) (Nat.le_refl _) (fun m h1 h2 => by omega)]
    · rw [if_neg h]
      refine ih a (i + 1) (by omega) (by omega) (fun m h1 h2 => ?_)
      by_cases e : m = i
      · rw [e]; exact h
      · exact hs m h1 (by omega)
theorem split_at (s : ByteArray) (hn : s.size ≤ 4000000000) : strings_Split.f s (⟨#[47]⟩ : ByteArray) = some (pieces s) := by
  unfold strings_Split.f
  have hsz : (⟨#[47]⟩ : ByteArray).size = 1 := rfl
  rw [hsz, if_pos (by omega)]
  have := split_pcs s s.size 0 0 (by omega) (by omega) (fun m _ h => by omega)
  rw [ext_all] at this
  rw [show (⟨#[47]⟩ : ByteArray) = slash from rfl, this]; rfl

/-! ### parts -/
def partsOf (l : List ByteArray) : List ByteArray × Option Int :=
  if l.all okName = true then (if l.length > 64 then ([], some 2) else (l, none)) else ([], some 30)
def parts (s : ByteArray) : List ByteArray × Option Int :=
  if s.size > 4096 then ([], some 2) else if s.size = 0 then ([], none) else partsOf (pieces s)
theorem drop_getD {α : Type} (l : List α) (d : α) (i : Nat) (h : i < l.length) : l.drop i = l.getD i d :: l.drop (i + 1) := by
  rw [List.getD_eq_getElem?_getD, List.getElem?_eq_getElem h]
  exact List.drop_eq_getElem_cons h
def errNum : Option Int → Int
  | none => 0
  | some n => n
theorem errNum_eq (o : Option Int) : o.getD 0 = errNum o := by cases o <;> rfl
theorem parts_loop (l : List ByteArray) (hn : l.length ≤ 4000000000) (d : Nat) : ∀ (k i : Nat), i + d = l.length → d < k →
    path_Parts.l0 k l l (l.length : Int) (i : Int) = some (if (l.drop i).all okName = true then (if l.length > 64 then ([], some 2) else (l, none)) else ([], some 30)) := by
  induction d with
  | zero =>
    intro k i hd hk
    obtain ⟨k, rfl⟩ : ∃ m, k = m + 1 := ⟨k - 1, by omega⟩
    simp only [path_Parts.l0]
    rw [if_neg (by omega), List.drop_of_length_le (by omega)]
    by_cases h : l.length > 64
    · rw [if_pos (by omega), if_pos h]; rfl
    · rw [if_neg (by omega), if_neg h]; rfl
  | succ d ih =>
    intro k i hd hk
    obtain ⟨k, rfl⟩ : ∃ m, k = m + 1 := ⟨k - 1, by omega⟩
    have w1 : wrap64 ((i : Int) + 1) = ((i + 1 : Nat) : Int) := w_add i 1 (by omega)
    simp only [path_Parts.l0, w1, rd_nat, name_at, Option.bind_some]
    rw [if_pos (by omega), if_pos (by omega), if_pos (by omega), ih k (i + 1) (by omega) (by omega), drop_getD l ByteArray.empty i (by omega), List.all_cons]
    cases okName (l.getD i ByteArray.empty) with
    | true => simp
    | false => simp
theorem parts_at (s : ByteArray) {k : Nat} (hk : s.size + 2 ≤ k) : path_Parts.f k s = some (parts s) := by
  unfold path_Parts.f parts
  by_cases h : s.size > 4096
  · rw [if_pos (by omega), if_pos h]
  · rw [if_neg (by omega), if_neg h]
    by_cases h0 : s.size = 0
    · rw [if_pos ((toList_nil s).mpr h0), if_pos h0]
    · rw [if_neg (fun e => h0 ((toList_nil s).mp e)), if_neg h0, split_at s (by omega)]
      simp only [Option.bind_some]
      have hl := pcs_length s s.size 0 0
      have := parts_loop (pieces s) (by unfold pieces; omega) (pieces s).length k 0 (by omega) (by unfold pieces; omega)
      rw [show ((0 : Nat) : Int) = 0 from rfl, List.drop_zero] at this
      rw [this]; rfl
theorem refparts_loop (l : List ByteArray) (hn : l.length ≤ 4000000000) (M : Nat) (hM : ∀ x ∈ l, x.size ≤ M) (hM2 : M ≤ 4000000000) (d : Nat) : ∀ (k i : Nat), i + d = l.length → d + M + 2 < k →
    selvageref03_Parts.l0 k l (i : Int) = some (if (l.drop i).all okName = true then (if l.length > 64 then ([], 2) else (l, 0)) else ([], 30)) := by
  induction d with
  | zero =>
    intro k i hd hk
    obtain ⟨k, rfl⟩ : ∃ m, k = m + 1 := ⟨k - 1, by omega⟩
    simp only [selvageref03_Parts.l0]
    rw [if_neg (by omega), List.drop_of_length_le (by omega)]
    by_cases h : l.length > 64
    · rw [if_pos (by omega), if_pos h]; rfl
    · rw [if_neg (by omega), if_neg h]; rfl
  | succ d ih =>
    intro k i hd hk
    obtain ⟨k, rfl⟩ : ∃ m, k = m + 1 := ⟨k - 1, by omega⟩
    have w1 : wrap64 ((i : Int) + 1) = ((i + 1 : Nat) : Int) := w_add i 1 (by omega)
    have hm : (l.getD i ByteArray.empty).size ≤ M := by
      rw [List.getD_eq_getElem?_getD, List.getElem?_eq_getElem (by omega)]
      exact hM _ (List.getElem_mem _)
    simp only [selvageref03_Parts.l0, w1, rd_nat]
    rw [if_pos (by omega), if_pos (by omega), refname_at _ (by omega) (by omega)]
    simp only [Option.bind_some]
    rw [ih k (i + 1) (by omega) (by omega), drop_getD l ByteArray.empty i (by omega), List.all_cons]
    cases okName (l.getD i ByteArray.empty) with
    | true => simp
    | false => simp
theorem pcs_sizes (s : ByteArray) (d : Nat) : ∀ a i, ∀ x ∈ pcs s d a i, x.size ≤ s.size := by
  have he : ∀ a i, (s.extract a i).size ≤ s.size := fun a i => by rw [ByteArray.size_extract]; omega
  induction d with
  | zero => intro a i x hx; simp only [pcs, List.mem_singleton] at hx; rw [hx]; exact he a i
  | succ d ih =>
    intro a i x hx
    simp only [pcs] at hx
    split at hx
    · rcases List.mem_cons.mp hx with rfl | hx
      · exact he a i
      · exact ih _ _ x hx
    · exact ih _ _ x hx
theorem refparts_at (s : ByteArray) {k : Nat} (hk : 2 * s.size + 5 ≤ k) : selvageref03_Parts.f k s = some ((parts s).1, errNum (parts s).2) := by
  unfold selvageref03_Parts.f parts
  by_cases h : s.size > 4096
  · rw [if_pos (by omega), if_pos h]; rfl
  · rw [if_neg (by omega), if_neg h]
    by_cases h0 : s.size = 0
    · rw [if_pos ((toList_nil s).mpr h0), if_pos h0]; rfl
    · rw [if_neg (fun e => h0 ((toList_nil s).mp e)), if_neg h0, pieces_at s (by omega) (by omega)]
      simp only [Option.bind_some]
      have hl := pcs_length s s.size 0 0
      have := refparts_loop (pieces s) (by unfold pieces; omega) s.size (pcs_sizes s s.size 0 0) (by omega) (pieces s).length k 0 (by omega) (by unfold pieces; omega)
      rw [show ((0 : Nat) : Int) = 0 from rfl, List.drop_zero] at this
      rw [this]
      unfold partsOf
      split
      · split <;> rfl
      · rfl
theorem parts_length (s : ByteArray) : (parts s).1.length ≤ 64 := by
  unfold parts partsOf
  split
  · simp
  · split
    · simp
    · split
      · split
        · simp
        · rename_i h
          simp only
          omega
      · simp
theorem num_at (o : Option Int) : selvagelaw03_num.f o = some (errNum o) := by
  unfold selvagelaw03_num.f
  rw [errNum_eq]

/-! ### Join -/
def joinAll (l : List ByteArray) : ByteArray := joinP l slash l.length
def joinS (l : List ByteArray) : ByteArray × Option Int :=
  if l.all okName = true then (if l.length > 64 then (⟨#[]⟩, some 2) else if (joinAll l).size > 4096 then (⟨#[]⟩, some 2) else (joinAll l, none)) else (⟨#[]⟩, some 30)
theorem joinAll_size (l : List ByteArray) : ((joinAll l).size : Int) = if l.length = 0 then 0 else (l.length : Int) - 1 + (sumP l l.length : Int) := by
  unfold joinAll
  by_cases h : l.length = 0
  · rw [if_pos h, h]; rfl
  · obtain ⟨n, hn⟩ : ∃ n, l.length = n + 1 := ⟨l.length - 1, by omega⟩
    have := joinP_size l slash n
    have hs : slash.size = 1 := rfl
    rw [if_neg h, hn, this, hs]
    omega
theorem join_loop (l : List ByteArray) (hn : l.length ≤ 4000000000) (hsum : sumP l l.length ≤ 4000000000) (d : Nat) : ∀ (k i : Nat) (x : Int), i + d = l.length → d < k → x = (l.length : Int) - 1 + (sumP l i : Int) →
    path_Join.l0 k l x l (l.length : Int) (i : Int) = some (if (l.drop i).all okName = true then (if l.length > 64 then (⟨#[]⟩, some 2) else if (joinAll l).size > 4096 then (⟨#[]⟩, some 2) else (joinAll l, none)) else (⟨#[]⟩, some 30)) := by
  induction d with
  | zero =>
    intro k i x hd hk hx
    obtain ⟨k, rfl⟩ : ∃ m, k = m + 1 := ⟨k - 1, by omega⟩
    have hi : i = l.length := by omega
    simp only [path_Join.l0]
    rw [if_neg (by omega), List.drop_of_length_le (by omega)]
    have hsz := joinAll_size l
    rw [hi] at hx
    by_cases h : l.length > 64
    · rw [if_pos (by omega), if_pos h]; rfl
    · rw [if_neg (by omega), if_neg h]
      by_cases h2 : (joinAll l).size > 4096
      · have : x > 4096 := by
          by_cases z : l.length = 0
          · rw [if_pos z] at hsz; omega
          · rw [if_neg z] at hsz; omega
        rw [if_pos this, if_pos h2]; rfl
      · have : ¬ x > 4096 := by
          by_cases z : l.length = 0
          · have : sumP l l.length = 0 := by rw [z]; rfl
            omega
          · rw [if_neg z] at hsz; omega
        rw [if_neg this, if_neg h2]
        unfold strings_Join.f
        rw [if_pos ⟨by omega, by have e : (⟨#[47]⟩ : ByteArray) = slash := rfl
                                 rw [e]; unfold joinAll at h2; omega⟩]
        rfl
  | succ d ih =>
    intro k i x hd hk hx
    obtain ⟨k, rfl⟩ : ∃ m, k = m + 1 := ⟨k - 1, by omega⟩
    have w1 : wrap64 ((i : Int) + 1) = ((i + 1 : Nat) : Int) := w_add i 1 (by omega)
    have hstep : sumP l (i + 1) = sumP l i + (l.getD i ByteArray.empty).size := rfl
    have hle := sumP_le l (i + 1) l.length (by omega)
    have w2 : wrap64 (x + ((l.getD i ByteArray.empty).size : Int)) = x + ((l.getD i ByteArray.empty).size : Int) := w64' (by omega) (by omega)
    simp only [path_Join.l0, w1, rd_nat, name_at, Option.bind_some, w2]
    rw [if_pos (by omega), if_pos (by omega), if_pos (by omega), ih k (i + 1) _ (by omega) (by omega) (by omega), drop_getD l ByteArray.empty i (by omega), List.all_cons]
    cases okName (l.getD i ByteArray.empty) with
    | true => simp
    | false => simp
theorem join_at (l : List ByteArray) (hn : l.length ≤ 4000000000) (hsum : sumP l l.length ≤ 4000000000) {k : Nat} (hk : l.length < k) : path_Join.f k l = some (joinS l) := by
  unfold path_Join.f
  rw [w_sub l.length (by omega)]
  exact join_loop l hn hsum l.length k 0 _ (by omega) hk (by simp [sumP])
theorem empty_app (s : ByteArray) : (⟨#[]⟩ : ByteArray) ++ s = s := by
  apply ba_ext; rw [app_data]; rfl
theorem refjoin_loop2 (l : List ByteArray) (hn : l.length ≤ 4000000000) (hsum : sumP l l.length ≤ 4000000000) (d : Nat) : ∀ (k i : Nat), i + d = l.length → d < k →
    selvageref03_Join.l1 k l ((joinP l slash i).size : Int) (joinP l slash i) (i : Int) = some (if (joinAll l).size > 4096 then (⟨#[]⟩, 2) else (joinAll l, 0)) := by
  have hbig : ∀ i, i ≤ l.length → (joinP l slash i).size ≤ 8000000001 := fun i hi => by
    have h1 := joinP_le l slash i l.length hi
    have h2 := joinAll_size l
    unfold joinAll at h2
    split at h2 <;> omega
  induction d with
  | zero =>
    intro k i hd hk
    obtain ⟨k, rfl⟩ : ∃ m, k = m + 1 := ⟨k - 1, by omega⟩
    obtain rfl : i = l.length := by omega
    simp only [selvageref03_Join.l1]
    rw [if_neg (by omega)]
    unfold joinAll
    by_cases h : (joinP l slash l.length).size > 4096
    · rw [if_pos (by omega), if_pos h]
    · rw [if_neg (by omega), if_neg h]
  | succ d ih =>
    intro k i hd hk
    obtain ⟨k, rfl⟩ : ∃ m, k = m + 1 := ⟨k - 1, by omega⟩
    have w1 : wrap64 ((i : Int) + 1) = ((i + 1 : Nat) : Int) := w_add i 1 (by omega)
    have hb := hbig i (by omega)
    have hx := hbig (i + 1) (by omega)
    have hs : slash.size = 1 := rfl
    have hi := ih k (i + 1) (by omega) (by omega)
    by_cases h0 : i > 0
    · have e : joinP l slash (i + 1) = joinP l slash i ++ slash ++ l.getD i ByteArray.empty := by
        simp only [joinP]
        rw [if_neg (by omega)]
      rw [e] at hi hx
      rw [ByteArray.size_append, ByteArray.size_append] at hx
      have e2 : (joinP l slash i ++ slash).size = (joinP l slash i).size + slash.size := ByteArray.size_append
      simp only [selvageref03_Join.l1, w1, rd_nat]
      rw [show (⟨#[47]⟩ : ByteArray) = slash from rfl, if_pos (by omega), if_pos (by omega), if_pos (by omega), if_pos (by omega), if_pos (by omega)]
      exact hi
    · obtain rfl : i = 0 := by omega
      have e : joinP l slash 1 = (⟨#[]⟩ : ByteArray) ++ l.getD 0 ByteArray.empty := by
        simp only [joinP, if_true, empty_app]
      have e0 : joinP l slash 0 = (⟨#[]⟩ : ByteArray) := rfl
      rw [Nat.zero_add, e] at hi
      rw [Nat.zero_add, e, ByteArray.size_append] at hx
      rw [e0] at hb ⊢
      simp only [selvageref03_Join.l1, w1, rd_nat]
      rw [if_pos (by omega), if_neg (by omega), if_pos (by omega), if_pos (by omega)]
      exact hi
theorem refjoin_loop (l : List ByteArray) (hn : l.length ≤ 4000000000) (hsum : sumP l l.length ≤ 4000000000) (d : Nat) : ∀ (k i : Nat), i + d = l.length → d + 4000000000 + l.length + 4 ≤ k →
    selvageref03_Join.l0 k l 0 (i : Int) = some (if (l.drop i).all okName = true then (if l.length > 64 then (⟨#[]⟩, 2) else if (joinAll l).size > 4096 then (⟨#[]⟩, 2) else (joinAll l, 0)) else (⟨#[]⟩, 30)) := by
  induction d with
  | zero =>
    intro k i hd hk
    obtain ⟨k, rfl⟩ : ∃ m, k = m + 1 := ⟨k - 1, by omega⟩
    simp only [selvageref03_Join.l0]
    rw [if_neg (by omega), List.drop_of_length_le (by omega)]
    by_cases h : l.length > 64
    · rw [if_pos (by omega), if_pos h]; rfl
    · have := refjoin_loop2 l hn hsum l.length k 0 (by omega) (by omega)
      have e0 : joinP l slash 0 = (⟨#[]⟩ : ByteArray) := rfl
      rw [e0] at this
      rw [if_neg (by omega), if_neg h]
      exact this
  | succ d ih =>
    intro k i hd hk
    obtain ⟨k, rfl⟩ : ∃ m, k = m + 1 := ⟨k - 1, by omega⟩
    have w1 : wrap64 ((i : Int) + 1) = ((i + 1 : Nat) : Int) := w_add i 1 (by omega)
    have hstep : sumP l (i + 1) = sumP l i + (l.getD i ByteArray.empty).size := rfl
    have hle := sumP_le l (i + 1) l.length (by omega)
    simp only [selvageref03_Join.l0, w1, rd_nat]
    rw [if_pos (by omega), if_pos (by omega), refname_at _ (by omega) (by omega), Option.bind_some]
    rw [ih k (i + 1) (by omega) (by omega), drop_getD l ByteArray.empty i (by omega), List.all_cons]
    cases okName (l.getD i ByteArray.empty) with
    | true => simp
    | false => simp
theorem refjoin_at (l : List ByteArray) (hn : l.length ≤ 4000000000) (hsum : sumP l l.length ≤ 4000000000) {k : Nat} (hk : 12000000004 ≤ k) : selvageref03_Join.f k l = some ((joinS l).1, errNum (joinS l).2) := by
  unfold selvageref03_Join.f
  have := refjoin_loop l hn hsum l.length k 0 (by omega) (by omega)
  rw [show ((0 : Nat) : Int) = 0 from rfl, List.drop_zero] at this
  rw [this]
  unfold joinS
  split
  · split
    · rfl
    · split <;> rfl
  · rfl
theorem sumP_app (a b : List ByteArray) : sumP (a ++ b) (a ++ b).length = sumP a a.length + sumP b b.length := by
  have h1 : ∀ n, n ≤ a.length → sumP (a ++ b) n = sumP a n := fun n => by
    induction n with
    | zero => intro _; rfl
    | succ n ih =>
      intro h
      simp only [sumP]
      rw [ih (by omega), List.getD_eq_getElem?_getD, List.getD_eq_getElem?_getD, List.getElem?_append_left (by omega)]
  have h2 : ∀ n, sumP (a ++ b) (a.length + n) = sumP a a.length + sumP b n := fun n => by
    induction n with
    | zero => exact h1 a.length (Nat.le_refl _)
    | succ n ih =>
      rw [show a.length + (n + 1) = (a.length + n) + 1 by omega]
      simp only [sumP]
      rw [ih, List.getD_eq_getElem?_getD, List.getD_eq_getElem?_getD, List.getElem?_append_right (by omega), Nat.add_sub_cancel_left]
      omega
  rw [List.length_append]
  exact h2 b.length
theorem sumP_cons (x : ByteArray) (l : List ByteArray) : sumP (x :: l) (x :: l).length = x.size + sumP l l.length := by
  have := sumP_app [x] l
  simp only [List.cons_append, List.nil_append] at this
  rw [this]
  simp [sumP]
theorem sumP_sum : ∀ l : List ByteArray, sumP l l.length = (l.map (·.size)).sum
  | [] => rfl
  | x :: l => by rw [sumP_cons, sumP_sum l, List.map_cons, List.sum_cons]
theorem sumP_one (x : ByteArray) : sumP [x] [x].length = x.size := by simp [sumP]
theorem pcs_sum (s : ByteArray) (d : Nat) : ∀ a i, a ≤ i → i + d = s.size → sumP (pcs s d a i) (pcs s d a i).length ≤ s.size - a := by
  induction d with
  | zero =>
    intro a i h1 h2
    simp only [pcs]
    rw [sumP_one, ByteArray.size_extract]; omega
  | succ d ih =>
    intro a i h1 h2
    simp only [pcs]
    split
    · rw [sumP_cons, ByteArray.size_extract]
      have := ih (i + 1) (i + 1) (Nat.le_refl _) (by omega)
      omega
    · exact ih a (i + 1) (by omega) (by omega)
theorem take_succ_bt (p : ByteArray) (n : Nat) (h : n < p.size) : ∃ b : UInt8, (p.extract 0 (n + 1)).toList = (p.extract 0 n).toList ++ [b] ∧ bt p (n : Int) = (b.toNat : Int) := by
  obtain ⟨b, hb, hv⟩ := bt_get p n h
  refine ⟨b, ?_, hv⟩
  rw [Lib.toList_data, Lib.toList_data, Lib.extract_data, Lib.extract_data, List.drop_zero, Nat.sub_zero, Nat.sub_zero, List.take_add_one]
  have e : p.data.toList[n]? = some b := by
    have := congrArg List.head? hb
    rw [List.head?_drop] at this
    exact this
  rw [e]; rfl
/-! ### sums -/
theorem sumP_take (l : List ByteArray) (m : Nat) : sumP (l.take m) (l.take m).length ≤ sumP l l.length := by
  have := sumP_app (l.take m) (l.drop m)
  rw [List.take_append_drop] at this
  omega
theorem sumP_drop (l : List ByteArray) (m : Nat) : sumP (l.drop m) (l.drop m).length ≤ sumP l l.length := by
  have := sumP_app (l.take m) (l.drop m)
  rw [List.take_append_drop] at this
  omega
theorem parts_sum (s : ByteArray) : sumP (parts s).1 (parts s).1.length ≤ s.size := by
  unfold parts partsOf
  have := pcs_sum s s.size 0 0 (Nat.le_refl _) (by omega)
  split
  · simp [sumP]
  · split
    · simp [sumP]
    · split
      · split
        · simp [sumP]
        · exact this
      · simp [sumP]
theorem app_assoc (a b c : ByteArray) : (a ++ b) ++ c = a ++ (b ++ c) := by
  apply ba_ext
  rw [app_data, app_data, app_data, app_data, List.append_assoc]

/-! ### Rel -/
def cp (a b : List ByteArray) : Nat → Nat → Nat
  | 0, i => i
  | d + 1, i => if i < a.length ∧ i < b.length ∧ (a.getD i ByteArray.empty).toList = (b.getD i ByteArray.empty).toList then cp a b d (i + 1) else i
theorem cp_le (a b : List ByteArray) (d : Nat) : ∀ i, i ≤ a.length → i ≤ b.length → cp a b d i ≤ a.length ∧ cp a b d i ≤ b.length := by
  induction d with
  | zero => intro i h1 h2; exact ⟨h1, h2⟩
  | succ d ih =>
    intro i h1 h2
    simp only [cp]
    split
    · rename_i h; exact ih (i + 1) (by omega) (by omega)
    · exact ⟨h1, h2⟩
def dd : ByteArray := ⟨#[46, 46]⟩
def way (a b : List ByteArray) (n : Nat) : List ByteArray := List.replicate (a.length - n) dd ++ b.drop n
def relS (a b : List ByteArray) (n : Nat) : ByteArray := if (way a b n).length = 0 then ⟨#[46]⟩ else joinAll (way a b n)
theorem way_length (a b : List ByteArray) (n : Nat) : (way a b n).length = (a.length - n) + (b.length - n) := by
  unfold way; rw [List.length_append, List.length_replicate, List.length_drop]
theorem sumP_replicate (m : Nat) : sumP (List.replicate m dd) (List.replicate m dd).length = 2 * m := by
  induction m with
  | zero => rfl
  | succ m ih =>
    rw [List.replicate_succ, sumP_cons, ih]
    have : dd.size = 2 := rfl
    omega
theorem way_sum (a b : List ByteArray) (n : Nat) : sumP (way a b n) (way a b n).length ≤ 2 * a.length + sumP b b.length := by
  unfold way
  rw [sumP_app, sumP_replicate]
  have := sumP_drop b n
  omega
theorem rel_l1 (a b : List ByteArray) (n : Nat) (hn : n ≤ b.length) (hl : a.length ≤ 1000) (hl2 : b.length ≤ 1000) (hsum : sumP b b.length ≤ 2000000) (d : Nat) : ∀ (k i : Nat), i + d = a.length - n → d < k →
    path_Rel.l1 k b (n : Int) (List.replicate i dd) ((a.length - n : Nat) : Int) (i : Int) = some (relS a b n, none) := by
  induction d with
  | zero =>
    intro k i hd hk
    obtain ⟨k, rfl⟩ : ∃ m, k = m + 1 := ⟨k - 1, by omega⟩
    obtain rfl : i = a.length - n := by omega
    simp only [path_Rel.l1, Int.toNat_natCast]
    have hw := way_length a b n
    have hs := way_sum a b n
    have hwd : List.replicate (a.length - n) dd ++ b.drop n = way a b n := rfl
    rw [if_neg (by omega), if_pos (by omega), if_pos (by omega), Option.bind_some, List.length_replicate, List.length_drop, if_pos (by omega), hwd, Option.bind_some]
    unfold relS
    by_cases z : (way a b n).length = 0
    · rw [if_pos (by omega), if_pos z]
    · rw [if_neg (by omega), if_neg z]
      have hsz := joinAll_size (way a b n)
      rw [if_neg z] at hsz
      have e : (⟨#[47]⟩ : ByteArray) = slash := rfl
      unfold strings_Join.f
      rw [e, if_pos ⟨by omega, by unfold joinAll at hsz; omega⟩]
      rfl
  | succ d ih =>
    intro k i hd hk
    obtain ⟨k, rfl⟩ : ∃ m, k = m + 1 := ⟨k - 1, by omega⟩
    have w1 : wrap64 ((i : Int) + 1) = ((i + 1 : Nat) : Int) := w_add i 1 (by omega)
    have e : List.replicate i dd ++ [(⟨#[46, 46]⟩ : ByteArray)] = List.replicate (i + 1) dd := by
      rw [List.replicate_succ']; rfl
    simp only [path_Rel.l1, w1, e]
    rw [if_pos (by omega), List.length_replicate, if_pos (by omega)]
    exact ih k (i + 1) (by omega) (by omega)
theorem rel_j1 (a b : List ByteArray) (n : Nat) (hna : n ≤ a.length) (hn : n ≤ b.length) (hl : a.length ≤ 1000) (hl2 : b.length ≤ 1000) (hsum : sumP b b.length ≤ 2000000) {k : Nat} (hk : a.length + 5 ≤ k) :
    path_Rel.j1 k a b (n : Int) = some (relS a b n, none) := by
  obtain ⟨k, rfl⟩ : ∃ m, k = m + 1 := ⟨k - 1, by omega⟩
  simp only [path_Rel.j1, Int.toNat_natCast]
  rw [if_pos (by omega), if_pos (by omega), List.length_drop]
  exact rel_l1 a b n hn hl hl2 hsum (a.length - n) k 0 (by omega) (by omega)
theorem rel_l0 (a b : List ByteArray) (hl : a.length ≤ 1000) (hl2 : b.length ≤ 1000) (hsum : sumP b b.length ≤ 2000000) (d : Nat) : ∀ (k i : Nat), i + d = a.length + 1 → i ≤ a.length → i ≤ b.length → d + a.length + 6 ≤ k →
    path_Rel.l0 k a b (i : Int) = some (relS a b (cp a b d i), none) := by
  induction d with
  | zero => intro k i hd h1; omega
  | succ d ih =>
    intro k i hd h1 h2 hk
    obtain ⟨k, rfl⟩ : ∃ m, k = m + 1 := ⟨k - 1, by omega⟩
    have w1 : wrap64 ((i : Int) + 1) = ((i + 1 : Nat) : Int) := w_add i 1 (by omega)
    have hj := rel_j1 a b i h1 h2 hl hl2 hsum (k := k) (by omega)
    simp only [path_Rel.l0, w1, rd_nat, cp]
    by_cases c1 : i < a.length
    · rw [if_pos (by omega)]
      by_cases c2 : i < b.length
      · rw [if_pos (by omega), if_pos (by omega)]
        by_cases c3 : (a.getD i ByteArray.empty).toList = (b.getD i ByteArray.empty).toList
        · rw [if_pos c3, if_pos ⟨c1, c2, c3⟩]
          exact ih k (i + 1) (by omega) (by omega) (by omega) (by omega)
        · rw [if_neg c3, if_neg (fun h => c3 h.2.2), hj]
      · rw [if_neg (by omega), if_neg (fun h => c2 h.2.1), hj]
    · rw [if_neg (by omega), if_neg (fun h => c1 h.1), hj]
def relR (s t : ByteArray) : ByteArray × Option Int :=
  if (parts s).2.isNone = true then (if (parts t).2.isNone = true then (relS (parts s).1 (parts t).1 (cp (parts s).1 (parts t).1 ((parts s).1.length + 1) 0), none) else (⟨#[]⟩, some ((parts t).2.getD 0))) else (⟨#[]⟩, some ((parts s).2.getD 0))
theorem rel_at (s t : ByteArray) (ht : t.size ≤ 1048576) {k : Nat} (hk : s.size + t.size + 200 ≤ k) : path_Rel.f k s t = some (relR s t) := by
  have h1 := parts_length s
  have h2 := parts_length t
  have h3 := parts_sum t
  unfold path_Rel.f relR
  rw [parts_at s (by omega), parts_at t (by omega)]
  simp only [Option.bind_some]
  by_cases c1 : (parts s).2.isNone = true
  · rw [if_pos c1, if_pos c1]
    by_cases c2 : (parts t).2.isNone = true
    · rw [if_pos c2, if_pos c2]
      exact rel_l0 (parts s).1 (parts t).1 (by omega) (by omega) (by omega) ((parts s).1.length + 1) k 0 (by omega) (by omega) (by omega) (by omega)
    · rw [if_neg c2, if_neg c2]
  · rw [if_neg c1, if_neg c1]

/-! #### the reference's -/
def catP (l : List ByteArray) : Nat → ByteArray
  | 0 => ⟨#[]⟩
  | n + 1 => (catP l n ++ slash) ++ l.getD n ByteArray.empty
theorem catP_succ (l : List ByteArray) (n : Nat) : catP l (n + 1) = (catP l n ++ slash) ++ l.getD n ByteArray.empty := rfl
theorem slash_dd : slash ++ dd = (⟨#[47, 46, 46]⟩ : ByteArray) := by decide
theorem catP_size (l : List ByteArray) (n : Nat) : (catP l n).size = sumP l n + n := by
  induction n with
  | zero => rfl
  | succ n ih =>
    simp only [catP, sumP]
    have : slash.size = 1 := rfl
    rw [ByteArray.size_append, ByteArray.size_append, ih]
    omega
theorem catP_join (l : List ByteArray) (n : Nat) : catP l (n + 1) = slash ++ joinP l slash (n + 1) := by
  induction n with
  | zero =>
    simp only [catP, joinP, if_true]
    rw [empty_app, empty_app, empty_app]
  | succ n ih =>
    have e : joinP l slash (n + 1 + 1) = joinP l slash (n + 1) ++ slash ++ l.getD (n + 1) ByteArray.empty := rfl
    have e2 : catP l (n + 1 + 1) = (catP l (n + 1) ++ slash) ++ l.getD (n + 1) ByteArray.empty := rfl
    rw [e, e2, ih, app_assoc, app_assoc, app_assoc]
theorem catP_bound (a b : List ByteArray) (n : Nat) (hl : a.length ≤ 1000) (hl2 : b.length ≤ 1000) (hsum : sumP b b.length ≤ 2000000) (m : Nat) (hm : m ≤ (way a b n).length) : (catP (way a b n) m).size ≤ 3000000 := by
  have h1 := catP_size (way a b n) m
  have h2 := sumP_le (way a b n) m _ hm
  have hs := way_sum a b n
  have hw := way_length a b n
  generalize sumP (way a b n) (way a b n).length = S at *
  generalize sumP (way a b n) m = S2 at *
  generalize sumP b b.length = S3 at *
  generalize (way a b n).length = L at *
  generalize (catP (way a b n) m).size = Z at *
  omega
theorem way_left (a b : List ByteArray) (n j : Nat) (h : j < a.length - n) : (way a b n).getD j ByteArray.empty = dd := by
  unfold way
  rw [List.getD_eq_getElem?_getD, List.getElem?_append_left (by rw [List.length_replicate]; exact h), List.getElem?_replicate, if_pos h]
  rfl
theorem way_right (a b : List ByteArray) (n j : Nat) : (way a b n).getD ((a.length - n) + j) ByteArray.empty = b.getD (n + j) ByteArray.empty := by
  unfold way
  rw [List.getD_eq_getElem?_getD, List.getElem?_append_right (by rw [List.length_replicate]; omega), List.length_replicate, Nat.add_sub_cancel_left, List.getElem?_drop, List.getD_eq_getElem?_getD]
theorem refrel_l2 (a b : List ByteArray) (n : Nat) (hn : n ≤ b.length) (hl : a.length ≤ 1000) (hl2 : b.length ≤ 1000) (hsum : sumP b b.length ≤ 2000000) (d : Nat) : ∀ (k j : Nat), n + j + d = b.length → d < k →
    selvageref03_Rel.l2 k b (catP (way a b n) ((a.length - n) + j)) ((n + j : Nat) : Int) = some (relS a b n, 0) := by
  have hw := way_length a b n
  have hle := catP_bound a b n hl hl2 hsum
  clear hsum
  induction d with
  | zero =>
    intro k j hd hk
    obtain ⟨k, rfl⟩ : ∃ m, k = m + 1 := ⟨k - 1, by omega⟩
    simp only [selvageref03_Rel.l2]
    have hm : (a.length - n) + j = (way a b n).length := by omega
    rw [if_neg (by omega), hm]
    unfold relS
    by_cases z : (way a b n).length = 0
    · rw [if_pos z, z]
      rw [if_pos (show (catP (way a b n) 0).toList = ([] : List UInt8) from nil_list)]
    · obtain ⟨m, hm2⟩ : ∃ m, (way a b n).length = m + 1 := ⟨(way a b n).length - 1, by omega⟩
      rw [if_neg z]
      unfold joinAll
      have hcs := catP_size (way a b n) (m + 1)
      rw [hm2]
      have hne : ¬ (catP (way a b n) (m + 1)).toList = ([] : List UInt8) := fun e => by have := (toList_nil _).mp e; omega
      rw [if_neg hne, if_pos (by omega), catP_join]
      have := ext_right slash (joinP (way a b n) slash (m + 1))
      have hs1 : slash.size = 1 := rfl
      rw [hs1] at this
      rw [this]
  | succ d ih =>
    intro k j hd hk
    obtain ⟨k, rfl⟩ : ∃ m, k = m + 1 := ⟨k - 1, by omega⟩
    have w1 : wrap64 (((n + j : Nat) : Int) + 1) = ((n + (j + 1) : Nat) : Int) := by rw [w64' (by omega) (by omega)]; omega
    have h1 := hle ((a.length - n) + j) (by omega)
    have h2 := hle ((a.length - n) + (j + 1)) (by omega)
    have e : catP (way a b n) ((a.length - n) + (j + 1)) = (catP (way a b n) ((a.length - n) + j) ++ slash) ++ b.getD (n + j) ByteArray.empty := by
      have e0 : catP (way a b n) ((a.length - n) + (j + 1)) = (catP (way a b n) ((a.length - n) + j) ++ slash) ++ (way a b n).getD ((a.length - n) + j) ByteArray.empty := by rw [← Nat.add_assoc]; exact catP_succ _ _
      rw [e0, way_right a b n j]
    rw [e, ByteArray.size_append] at h2
    have hi := ih k (j + 1) (by clear h1 h2 e; omega) (by clear h1 h2 e; omega)
    rw [e] at hi
    clear e
    generalize catP (way a b n) ((a.length - n) + j) = X at *
    simp only [selvageref03_Rel.l2, w1, rd_nat]
    rw [if_pos (by omega), if_pos (by omega), if_pos (by omega), show (⟨#[47]⟩ : ByteArray) = slash from rfl, if_pos (by omega)]
    exact hi
theorem refrel_l1 (a b : List ByteArray) (n : Nat) (hna : n ≤ a.length) (hn : n ≤ b.length) (hl : a.length ≤ 1000) (hl2 : b.length ≤ 1000) (hsum : sumP b b.length ≤ 2000000) (d : Nat) : ∀ (k i : Nat), n + i + d = a.length → d + b.length + 5 ≤ k →
    selvageref03_Rel.l1 k a b (n : Int) (catP (way a b n) i) ((n + i : Nat) : Int) = some (relS a b n, 0) := by
  have hw := way_length a b n
  have hle := catP_bound a b n hl hl2 hsum
  have hl2' := refrel_l2 a b n hn hl hl2 hsum
  clear hsum
  induction d with
  | zero =>
    intro k i hd hk
    obtain ⟨k, rfl⟩ : ∃ m, k = m + 1 := ⟨k - 1, by omega⟩
    simp only [selvageref03_Rel.l1]
    rw [if_neg (by omega)]
    have := hl2' (b.length - n) k 0 (by omega) (by omega)
    rw [Nat.add_zero, Nat.add_zero] at this
    rw [show i = a.length - n by omega]
    exact this
  | succ d ih =>
    intro k i hd hk
    obtain ⟨k, rfl⟩ : ∃ m, k = m + 1 := ⟨k - 1, by omega⟩
    have w1 : wrap64 (((n + i : Nat) : Int) + 1) = ((n + (i + 1) : Nat) : Int) := by rw [w64' (by omega) (by omega)]; omega
    have h1 := hle i (by omega)
    have e : catP (way a b n) (i + 1) = catP (way a b n) i ++ (⟨#[47, 46, 46]⟩ : ByteArray) := by
      rw [catP_succ, way_left a b n i (by omega), app_assoc, slash_dd]
    have hi := ih k (i + 1) (by clear h1 e; omega) (by clear h1 e; omega)
    rw [e] at hi
    clear e
    generalize catP (way a b n) i = X at *
    simp only [selvageref03_Rel.l1, w1]
    rw [if_pos (by omega), if_pos (by omega)]
    exact hi
theorem refrel_l0 (a b : List ByteArray) (hl : a.length ≤ 1000) (hl2 : b.length ≤ 1000) (hsum : sumP b b.length ≤ 2000000) (d : Nat) : ∀ (k i : Nat), i + d = a.length + 1 → i ≤ a.length → i ≤ b.length → d + a.length + b.length + 10 ≤ k →
    selvageref03_Rel.l0 k a b (i : Int) = some (relS a b (cp a b d i), 0) := by
  have hj : ∀ (k i : Nat), i ≤ a.length → i ≤ b.length → a.length + b.length + 7 ≤ k → selvageref03_Rel.j1 k a b (i : Int) = some (relS a b i, 0) := by
    intro k i h1 h2 hk
    obtain ⟨k, rfl⟩ : ∃ m, k = m + 1 := ⟨k - 1, by omega⟩
    simp only [selvageref03_Rel.j1]
    have := refrel_l1 a b i h1 h2 hl hl2 hsum (a.length - i) k 0 (by omega) (by omega)
    rw [Nat.add_zero] at this
    exact this
  induction d with
  | zero => intro k i hd h1; omega
  | succ d ih =>
    intro k i hd h1 h2 hk
    obtain ⟨k, rfl⟩ : ∃ m, k = m + 1 := ⟨k - 1, by omega⟩
    have w1 : wrap64 ((i : Int) + 1) = ((i + 1 : Nat) : Int) := w_add i 1 (by omega)
    have hj' := hj k i h1 h2 (by omega)
    simp only [selvageref03_Rel.l0, w1, rd_nat, cp]
    by_cases c1 : i < a.length
    · rw [if_pos (by omega)]
      by_cases c2 : i < b.length
      · rw [if_pos (by omega), if_pos (by omega)]
        by_cases c3 : (a.getD i ByteArray.empty).toList = (b.getD i ByteArray.empty).toList
        · rw [if_pos c3, if_pos ⟨c1, c2, c3⟩]
          exact ih k (i + 1) (by omega) (by omega) (by omega) (by omega)
        · rw [if_neg c3, if_neg (fun h => c3 h.2.2), hj']
      · rw [if_neg (by omega), if_neg (fun h => c2 h.2.1), hj']
    · rw [if_neg (by omega), if_neg (fun h => c1 h.1), hj']
theorem errNum_none {o : Option Int} (h : o.isNone = true) : errNum o = 0 := by cases o with | none => rfl | some x => cases h
theorem parts_errs (s : ByteArray) (h : ¬ (parts s).2.isNone = true) : ¬ errNum (parts s).2 = 0 := by
  revert h
  unfold parts partsOf
  split
  · intro _; decide
  · split
    · intro h; exact absurd rfl h
    · split
      · split
        · intro _; decide
        · intro h; exact absurd rfl h
      · intro _; decide
theorem refrel_at (s t : ByteArray) (ht : t.size ≤ 1048576) {k : Nat} (hk : 2 * s.size + 2 * t.size + 400 ≤ k) : selvageref03_Rel.f k s t = some ((relR s t).1, errNum (relR s t).2) := by
  have h1 := parts_length s
  have h2 := parts_length t
  have h3 := parts_sum t
  unfold selvageref03_Rel.f relR
  rw [refparts_at s (by omega), refparts_at t (by omega)]
  simp only [Option.bind_some]
  by_cases c1 : (parts s).2.isNone = true
  · rw [if_pos (errNum_none c1), if_pos c1]
    by_cases c2 : (parts t).2.isNone = true
    · rw [if_pos (errNum_none c2), if_pos c2]
      exact refrel_l0 (parts s).1 (parts t).1 (by omega) (by omega) (by omega) ((parts s).1.length + 1) k 0 (by omega) (by omega) (by omega) (by omega)
    · rw [if_neg (parts_errs t c2), if_neg c2, ← errNum_eq]; rfl
  · rw [if_neg (parts_errs s c1), if_neg c1, ← errNum_eq]; rfl

/-! ### Go -/
def goL : List ByteArray → List ByteArray → ByteArray × Option Int
  | [], l => joinS l
  | x :: r, l =>
    if x.toList = ([] : List UInt8) ∨ x.toList = ([46] : List UInt8) then goL r l
    else if x.toList = ([46, 46] : List UInt8) then (if l.length = 0 then (⟨#[]⟩, some 31) else goL r (l.take (l.length - 1)))
    else if okName x = true then goL r (l ++ [x]) else (⟨#[]⟩, some 30)
theorem go_loop (p : List ByteArray) (hp : p.length ≤ 10000) (hps : sumP p p.length ≤ 10000) (d : Nat) : ∀ (k i : Nat) (l : List ByteArray), i + d = p.length → l.length ≤ 64 + i → sumP l l.length ≤ 1048576 + sumP p i → 2 * d + 20000 ≤ k →
    path_Go.l0 k l p (p.length : Int) (i : Int) = some (goL (p.drop i) l) := by
  induction d with
  | zero =>
    intro k i l hd hl hs hk
    obtain ⟨k, rfl⟩ : ∃ m, k = m + 1 := ⟨k - 1, by omega⟩
    have hle := sumP_le p i p.length (by omega)
    simp only [path_Go.l0]
    rw [if_neg (by omega), List.drop_of_length_le (by omega), join_at l (by omega) (by omega) (by omega)]
    rfl
  | succ d ih =>
    intro k i l hd hl hs hk
    obtain ⟨k, rfl⟩ : ∃ m, k = m + 2 := ⟨k - 2, by omega⟩
    have w1 : wrap64 ((i : Int) + 1) = ((i + 1 : Nat) : Int) := w_add i 1 (by omega)
    have hstep : sumP p (i + 1) = sumP p i + (p.getD i ByteArray.empty).size := rfl
    have jt : ∀ x, path_Go.j1 (k + 1) l x p (p.length : Int) (i : Int) true = path_Go.l0 k l p (p.length : Int) ((i + 1 : Nat) : Int) := fun x => by
      simp only [path_Go.j1, w1]; rw [if_pos trivial]
    obtain ⟨K, hK⟩ : ∃ K, k + 1 = K := ⟨_, rfl⟩
    rw [show k + 2 = K + 1 by omega, drop_getD p ByteArray.empty i (by omega)]
    simp only [path_Go.l0, rd_nat, goL]
    rw [if_pos (by omega), if_pos (by omega), if_pos (by omega), ← hK]
    generalize p.getD i ByteArray.empty = x at *
    by_cases c1 : x.toList = ([] : List UInt8)
    · rw [if_pos c1, if_pos (Or.inl c1), jt]
      exact ih k (i + 1) l (by omega) (by omega) (by omega) (by omega)
    · rw [if_neg c1]
      by_cases c2 : x.toList = ([46] : List UInt8)
      · have e : (x.toList == ([46] : List UInt8)) = true := by rw [c2]; rfl
        rw [e, if_pos (Or.inr c2), jt]
        exact ih k (i + 1) l (by omega) (by omega) (by omega) (by omega)
      · have e : (x.toList == ([46] : List UInt8)) = false := beq_eq_false_iff_ne.mpr c2
        rw [e, if_neg (fun h => h.elim c1 c2)]
        simp only [path_Go.j1, w1]
        rw [if_neg (by simp)]
        by_cases c3 : x.toList = ([46, 46] : List UInt8)
        · rw [if_pos c3, if_pos c3]
          by_cases z : l.length = 0
          · rw [if_pos (by omega), if_pos z]
          · have w2 : wrap64 ((l.length : Int) - 1) = ((l.length - 1 : Nat) : Int) := by rw [w64' (by omega) (by omega)]; omega
            have ht := sumP_take l (l.length - 1)
            rw [if_neg (by omega), if_neg z, w2, if_pos (by omega), if_pos (by omega), Int.toNat_natCast]
            exact ih k (i + 1) _ (by omega) (by rw [List.length_take]; omega) (by omega) (by omega)
        · rw [if_neg c3, if_neg c3, name_at, Option.bind_some]
          by_cases c4 : okName x = true
          · rw [if_pos c4, if_pos none_isNone, if_pos (by omega), if_pos c4]
            exact ih k (i + 1) _ (by omega) (by simp; omega) (by rw [sumP_app, sumP_one]; omega) (by omega)
          · rw [if_neg c4, if_neg (by simp), if_neg c4]
def goR (s t : ByteArray) : ByteArray × Option Int :=
  if (parts s).2.isNone = true then (if t.size > 4096 then (⟨#[]⟩, some 2) else if 1 ≤ t.size ∧ bt t 0 = 47 then (⟨#[]⟩, some 31) else goL (pieces t) (parts s).1) else (⟨#[]⟩, some ((parts s).2.getD 0))
theorem prefix47 (s : ByteArray) : strings_HasPrefix.f s (⟨#[47]⟩ : ByteArray) = some (decide (1 ≤ s.size ∧ bt s 0 = 47)) := by
  unfold strings_HasPrefix.f stringslite_HasPrefix.f
  have hsz : (⟨#[47]⟩ : ByteArray).size = 1 := rfl
  rw [hsz]
  by_cases h : s.size ≥ 1
  · rw [if_pos (by omega), if_pos (by omega), if_pos (by omega), Int.toNat_natCast]
    obtain ⟨b, hb, hv⟩ := take_succ_bt s 0 (by omega)
    have hl : (⟨#[47]⟩ : ByteArray).toList = [47] := by rw [Lib.toList_data]
    have h0 : (s.extract 0 0).toList = ([] : List UInt8) := by rw [Lib.toList_data, Lib.extract_data]; simp
    rw [Nat.zero_add] at hb
    rw [hb, h0, hl, List.nil_append, Option.bind_some]
    rw [show ((0 : Nat) : Int) = 0 from rfl] at hv
    congr 1
    rw [Bool.eq_iff_iff, beq_iff_eq, decide_eq_true_eq, hv]
    constructor
    · intro e
      simp only [List.cons.injEq, and_true] at e
      rw [e]
      exact ⟨h, rfl⟩
    · rintro ⟨_, e⟩
      have : b = 47 := UInt8.toNat_inj.mp (by have : (47 : UInt8).toNat = 47 := rfl; omega)
      rw [this]
  · rw [if_neg (by omega), Option.bind_some, decide_eq_false (by omega)]
theorem go_at (s t : ByteArray) (hs : s.size ≤ 1048576) {k : Nat} (hk : s.size + 50000 ≤ k) : path_Go.f k s t = some (goR s t) := by
  have h1 := parts_length s
  have h3 := parts_sum s
  unfold path_Go.f goR
  rw [parts_at s (by omega)]
  simp only [Option.bind_some]
  by_cases c1 : (parts s).2.isNone = true
  · rw [if_pos c1, if_pos c1]
    by_cases c2 : t.size > 4096
    · rw [if_pos (by omega), if_pos c2]
    · rw [if_neg (by omega), if_neg c2, prefix47, Option.bind_some]
      by_cases c3 : 1 ≤ t.size ∧ bt t 0 = 47
      · rw [decide_eq_true c3, if_pos rfl, if_pos c3]
      · rw [decide_eq_false c3, if_neg (by simp), if_neg c3, split_at t (by omega), Option.bind_some]
        have hl := pcs_length t t.size 0 0
        have hsu := pcs_sum t t.size 0 0 (Nat.le_refl _) (by omega)
        have := go_loop (pieces t) (by unfold pieces; omega) (by unfold pieces; omega) (pieces t).length k 0 (parts s).1 (by omega) (by omega) (by simp only [sumP]; omega) (by unfold pieces; omega)
        rw [show ((0 : Nat) : Int) = 0 from rfl, List.drop_zero] at this
        exact this
  · rw [if_neg c1, if_neg c1]
theorem refgo_loop (p : List ByteArray) (hp : p.length ≤ 10000) (hps : sumP p p.length ≤ 10000) (d : Nat) : ∀ (k i : Nat) (l : List ByteArray), i + d = p.length → l.length ≤ 64 + i → sumP l l.length ≤ 1048576 + sumP p i → 2 * d + 12000020000 ≤ k →
    selvageref03_Go.l0 k l p (i : Int) = some ((goL (p.drop i) l).1, errNum (goL (p.drop i) l).2) := by
  induction d with
  | zero =>
    intro k i l hd hl hs hk
    obtain ⟨k, rfl⟩ : ∃ m, k = m + 1 := ⟨k - 1, by omega⟩
    have hle := sumP_le p i p.length (by omega)
    simp only [selvageref03_Go.l0]
    rw [if_neg (by omega), List.drop_of_length_le (by omega), refjoin_at l (by omega) (by omega) (by omega)]
    rfl
  | succ d ih =>
    intro k i l hd hl hs hk
    obtain ⟨k, rfl⟩ : ∃ m, k = m + 2 := ⟨k - 2, by omega⟩
    have w1 : wrap64 ((i : Int) + 1) = ((i + 1 : Nat) : Int) := w_add i 1 (by omega)
    have hstep : sumP p (i + 1) = sumP p i + (p.getD i ByteArray.empty).size := rfl
    have hple := sumP_le p (i + 1) p.length (by omega)
    have jt : selvageref03_Go.j2 (k + 1) l p (i : Int) true = selvageref03_Go.l0 k l p ((i + 1 : Nat) : Int) := by
      simp only [selvageref03_Go.j2, w1]; rw [if_pos trivial]
    obtain ⟨K, hK⟩ : ∃ K, k + 1 = K := ⟨_, rfl⟩
    rw [show k + 2 = K + 1 by omega, drop_getD p ByteArray.empty i (by omega)]
    simp only [selvageref03_Go.l0, rd_nat, goL]
    rw [if_pos (by omega), if_pos (by omega), ← hK]
    by_cases c1 : (p.getD i ByteArray.empty).toList = ([] : List UInt8)
    · rw [if_pos c1, if_pos (Or.inl c1), jt]
      exact ih k (i + 1) l (by omega) (by omega) (by omega) (by omega)
    · rw [if_neg c1]
      by_cases c2 : (p.getD i ByteArray.empty).toList = ([46] : List UInt8)
      · have e : ((p.getD i ByteArray.empty).toList == ([46] : List UInt8)) = true := by rw [c2]; rfl
        rw [e, if_pos (Or.inr c2), jt]
        exact ih k (i + 1) l (by omega) (by omega) (by omega) (by omega)
      · have e : ((p.getD i ByteArray.empty).toList == ([46] : List UInt8)) = false := beq_eq_false_iff_ne.mpr c2
        rw [e, if_neg (fun h => h.elim c1 c2)]
        simp only [selvageref03_Go.j2, w1, rd_nat]
        rw [if_neg (by simp), if_pos (by omega), if_pos (by omega)]
        by_cases c3 : (p.getD i ByteArray.empty).toList = ([46, 46] : List UInt8)
        · rw [if_pos c3, if_pos c3]
          by_cases z : l.length = 0
          · rw [if_pos (by omega), if_pos z]; rfl
          · have w2 : wrap64 ((l.length : Int) - 1) = ((l.length - 1 : Nat) : Int) := by rw [w64' (by omega) (by omega)]; omega
            have ht := sumP_take l (l.length - 1)
            rw [if_neg (by omega), if_neg z, w2, if_pos (by omega), if_pos (by omega), Int.toNat_natCast]
            exact ih k (i + 1) _ (by omega) (by rw [List.length_take]; omega) (by omega) (by omega)
        · rw [if_neg c3, if_neg c3, refname_at _ (by omega) (by omega), Option.bind_some]
          by_cases c4 : okName (p.getD i ByteArray.empty) = true
          · rw [if_pos c4, if_pos rfl, if_pos (by simp; omega), List.nil_append, Option.bind_some, if_pos (by omega), if_pos c4]
            exact ih k (i + 1) _ (by omega) (by simp; omega) (by rw [sumP_app, sumP_one]; omega) (by omega)
          · rw [if_neg c4, if_neg (by decide), if_neg c4]; rfl
theorem refgo_at (s t : ByteArray) (hs : s.size ≤ 1048576) {k : Nat} (hk : 12010000000 ≤ k) : selvageref03_Go.f k s t = some ((goR s t).1, errNum (goR s t).2) := by
  have h1 := parts_length s
  have h3 := parts_sum s
  obtain ⟨k, rfl⟩ : ∃ m, k = m + 1 := ⟨k - 1, by omega⟩
  unfold selvageref03_Go.f goR
  rw [refparts_at s (by omega)]
  simp only [Option.bind_some]
  by_cases c1 : (parts s).2.isNone = true
  · rw [if_pos (errNum_none c1), if_pos c1]
    by_cases c2 : t.size > 4096
    · rw [if_pos (by omega), if_pos c2]; rfl
    · rw [if_neg (by omega), if_neg c2]
      have jt : selvageref03_Go.j0 (k + 1) t (parts s).1 true = some (⟨#[]⟩, 31) := by simp [selvageref03_Go.j0]
      have jf : selvageref03_Go.j0 (k + 1) t (parts s).1 false = some ((goL (pieces t) (parts s).1).1, errNum (goL (pieces t) (parts s).1).2) := by
        simp only [selvageref03_Go.j0]
        have hl := pcs_length t t.size 0 0
        have hsu := pcs_sum t t.size 0 0 (Nat.le_refl _) (by omega)
        rw [if_neg (by simp), if_pos (by simp; omega), pieces_at t (by omega) (by omega), Option.bind_some, List.nil_append]
        have := refgo_loop (pieces t) (by unfold pieces; omega) (by unfold pieces; omega) (pieces t).length k 0 (parts s).1 (by omega) (by omega) (by simp only [sumP]; omega) (by unfold pieces; omega)
        rw [show ((0 : Nat) : Int) = 0 from rfl, List.drop_zero] at this
        exact this
      by_cases z : t.size = 0
      · rw [if_pos ((toList_nil t).mpr z), if_neg (by omega), jf]
      · rw [if_neg (fun e => z ((toList_nil t).mp e)), if_pos (by omega)]
        by_cases c3 : bt t 0 = 47
        · have e : (bt t 0 == 47) = true := by rw [c3]; rfl
          rw [e, if_pos ⟨by omega, c3⟩, jt]; rfl
        · have e : (bt t 0 == 47) = false := beq_eq_false_iff_ne.mpr c3
          rw [e, if_neg (fun h => c3 h.2), jf]
  · rw [if_neg (parts_errs s c1), if_neg c1, ← errNum_eq]; rfl

theorem went_true : selvagelaw03_went.f 80 = some true := by decide +kernel
theorem went_at {k : Nat} (hk : 80 ≤ k) : selvagelaw03_went.f k = some true := at_rounds selvagelaw03_went.mono hk went_true
theorem PathRels : ∀ (a0 a1 : ByteArray), (a0.size + 1) + (a1.size + 1) ≤ 1048576 → ∃ k, selvagelaw03_PathRels.f k a0 a1 = some true := by
  intro a0 a1 hn
  refine ⟨12010000000, ?_⟩
  unfold selvagelaw03_PathRels.f
  rw [rel_at a0 a1 (by omega) (by omega), refrel_at a0 a1 (by omega) (by omega), go_at a0 a1 (by omega) (by omega), refgo_at a0 a1 (by omega) (by omega), went_at (by omega)]
  simp only [Option.bind_some, num_at]
  rw [if_pos trivial, if_pos trivial, if_pos trivial, if_pos trivial]
end Go.Proofs.YtflkehpgkiomdaaDoor.Pure
