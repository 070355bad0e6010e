/-
  PathLimits, in plain Lean, over the third print: names of 255 bytes, paths of 64 names and of 4096 bytes. The lemmas on names and parts are those of the elder texts.
-/
import Derived.Test.YtflkehpgkiomdaaDoorEPure
import Derived.Lib.IndexAny
import Derived.Lib.IndexBytes
import Derived.Lib.IndexLaws
import Derived.Lib.CountLaws
import Derived.Lib.Split
import Derived.Lib.CutLaws
import Derived.Test.YtflkehpgkiomdaaDoorPl3
namespace Go.Proofs.YtflkehpgkiomdaaDoor.Pure
open Go.RowKit Go.Proofs.YtflkehpgkiomdaaDoor.Pl Go.Proofs.YtflkehpgkiomdaaDoor.Ext Go.Proofs.YtflkehpgkiomdaaDoorW.PrintWords Go.Proofs.YtflkehpgkiomdaaDoorW.PrintLast
theorem bt_get (s : ByteArray) (i : Nat) (h : i < s.size) : ∃ b : UInt8, s.data.toList.drop i = b :: s.data.toList.drop (i + 1) ∧ bt s (i : Int) = (b.toNat : Int) := by
  have hl : i < s.data.toList.length := by rw [data_length]; exact h
  refine ⟨s.data.toList[i], List.drop_eq_getElem_cons hl, ?_⟩
  rw [bt_list, List.getD_eq_getElem?_getD, List.getElem?_eq_getElem hl]
  rfl
def nb (b : UInt8) : Bool := b != 47 && b != 0
theorem nb_int (b : UInt8) : nb b = true ↔ ¬ (b.toNat : Int) = 47 ∧ ¬ (b.toNat : Int) = 0 := by
  unfold nb
  rw [Bool.and_eq_true, bne_iff_ne, bne_iff_ne]
  have e1 : b = 47 ↔ (b.toNat : Int) = 47 := ⟨fun h => by rw [h]; rfl, fun h => UInt8.toNat_inj.mp (by have : (47 : UInt8).toNat = 47 := rfl; omega)⟩
  have e2 : b = 0 ↔ (b.toNat : Int) = 0 := ⟨fun h => by rw [h]; rfl, fun h => UInt8.toNat_inj.mp (by have : (0 : UInt8).toNat = 0 := rfl; omega)⟩
  rw [Ne, Ne, e1, e2]
def okName (s : ByteArray) : Bool :=
  !(s.toList == ([] : List UInt8)) && decide (s.size ≤ 255) && !(s.toList == ([46] : List UInt8)) && !(s.toList == ([46, 46] : List UInt8)) && s.data.toList.all nb
theorem indexAny_nb : ∀ l : List UInt8, decide (Lib.indexAny l [47, 0] ≥ 0) = !(l.all nb)
  | [] => rfl
  | b :: l => by
    have ih := indexAny_nb l
    have hge := Lib.indexAny_ge [47, 0] l
    unfold Lib.indexAny
    have hc : ([47, 0] : List UInt8).contains b = !(nb b) := by
      unfold nb
      cases h1 : b == 47 <;> cases h2 : b == 0 <;> simp_all
    rw [hc, List.all_cons]
    cases nb b with
    | false => simp
    | true =>
      simp only [Bool.not_true, Bool.true_and]
      rw [← ih]
      by_cases h : Lib.indexAny l [47, 0] = -1
      · rw [h]; rfl
      · have : (Lib.indexAny l [47, 0] == -1) = false := beq_eq_false_iff_ne.mpr h
        rw [this]
        simp only [Bool.false_eq_true, if_false]
        rw [Bool.eq_iff_iff, decide_eq_true_eq, decide_eq_true_eq]
        omega
theorem name_at (s : ByteArray) : path_Name.f s = some (if okName s = true then none else some 30) := by
  unfold path_Name.f okName
  by_cases h0 : s.toList = ([] : List UInt8)
  · rw [if_pos h0]; simp [h0]
  · rw [if_neg h0]
    by_cases h1 : (s.size : Int) > 255
    · have : ¬ s.size ≤ 255 := by omega
      rw [if_pos h1]; simp [this]
    · have h1' : s.size ≤ 255 := by omega
      rw [if_neg h1]
      by_cases h2 : s.toList = ([46] : List UInt8)
      · rw [if_pos h2]; simp [h2]
      · rw [if_neg h2]
        by_cases h3 : s.toList = ([46, 46] : List UInt8)
        · rw [if_pos h3]; simp [h3]
        · rw [if_neg h3]
          have hx : strings_IndexAny.f s (⟨#[47, 0]⟩ : ByteArray) = some (Lib.indexAny s.data.toList [47, 0]) := by
            unfold strings_IndexAny.f
            have hsz : (⟨#[47, 0]⟩ : ByteArray).size = 2 := rfl
            rw [hsz, if_pos]
            refine ⟨by omega, ?_⟩
            decide
          unfold strings_ContainsAny.f
          rw [hx]
          simp only [Option.bind_some, indexAny_nb]
          cases s.data.toList.all nb with
          | true => simp [h0, h1', h2, h3]
          | false => simp
def pcs (s : ByteArray) : Nat → Nat → Nat → List ByteArray
  | 0, a, i => [s.extract a i]
  | d + 1, a, i => if bt s (i : Int) = 47 then s.extract a i :: pcs s d (i + 1) (i + 1) else pcs s d a (i + 1)
def pieces (s : ByteArray) : List ByteArray := pcs s s.size 0 0
theorem pcs_length (s : ByteArray) (d : Nat) : ∀ a i, 1 ≤ (pcs s d a i).length ∧ (pcs s d a i).length ≤ d + 1 := by
  induction d with
  | zero => intro a i; simp [pcs]
  | succ d ih =>
    intro a i
    simp only [pcs]
    split
    · have := ih (i + 1) (i + 1)
      simp only [List.length_cons]; omega
    · have := ih a (i + 1)
      omega
def slash : ByteArray := ⟨#[47]⟩
theorem indexB_slash (t : ByteArray) : Lib.indexB t slash = Lib.indexByte t.data.toList 47 := Lib.index_one t.data.toList 47
theorem no_slash (s : ByteArray) (a i j : Nat) (hs : ∀ m, a ≤ m → m < i → ¬ bt s (m : Int) = 47) (hi : i ≤ s.size) (hj : a + j < i) : (s.extract a s.size).data.toList[j]? ≠ some 47 := by
  intro he
  have hb := hs (a + j) (by omega) (by omega)
  rw [Lib.extract_data, List.getElem?_take, if_pos (by omega), List.getElem?_drop] at he
  rw [bt_list, List.getD_eq_getElem?_getD, he] at hb
  exact hb rfl
theorem index_here (s : ByteArray) (a i : Nat) (ha : a ≤ i) (hi : i < s.size) (hs : ∀ m, a ≤ m → m < i → ¬ bt s (m : Int) = 47) (h47 : bt s (i : Int) = 47) : Lib.indexB (s.extract a s.size) slash = ((i - a : Nat) : Int) := by
  rw [indexB_slash]
  have hge := Lib.indexByte_ge (s.extract a s.size).data.toList 47
  have hat : (s.extract a s.size).data.toList[i - a]? = some 47 := by
    obtain ⟨b, hb, hv⟩ := bt_get s i hi
    rw [Lib.extract_data, List.getElem?_take, if_pos (by omega), List.getElem?_drop, show a + (i - a) = i by omega]
    have e : s.data.toList[i]? = some b := by
      have := congrArg List.head? hb
      rw [List.head?_drop] at this
      exact this
    rw [e]
    congr 1
    exact UInt8.toNat_inj.mp (by have : (47 : UInt8).toNat = 47 := rfl; omega)
  rcases (by omega : Lib.indexByte (s.extract a s.size).data.toList 47 < 0 ∨ 0 ≤ Lib.indexByte (s.extract a s.size).data.toList 47) with h | h
  · exact absurd hat (Lib.indexByte_none (by omega) (i - a))
  · obtain ⟨o, ho⟩ : ∃ o : Nat, Lib.indexByte (s.extract a s.size).data.toList 47 = o := ⟨_, (Int.toNat_of_nonneg h).symm⟩
    obtain ⟨h1, h2⟩ := Lib.indexByte_some ho
    rcases Nat.lt_trichotomy o (i - a) with hc | hc | hc
    · exact absurd h1 (no_slash s a i o hs (by omega) (by omega))
    · rw [ho, hc]
    · exact absurd hat (h2 (i - a) hc)
theorem split_pcs (s : ByteArray) (d : Nat) : ∀ (a i : Nat), i + d = s.size → a ≤ i → (∀ m, a ≤ m → m < i → ¬ bt s (m : Int) = 47) →
    Lib.splitB slash 0 (Lib.countB (s.extract a s.size) slash) (s.extract a s.size) = pcs s d a i := by
  induction d with
  | zero =>
    intro a i hd ha hs
    obtain rfl : i = s.size := by omega
    have hmiss : Lib.indexB (s.extract a s.size) slash = -1 := by
      rw [indexB_slash]
      have hge := Lib.indexByte_ge (s.extract a s.size).data.toList 47
      rcases (by omega : Lib.indexByte (s.extract a s.size).data.toList 47 < 0 ∨ 0 ≤ Lib.indexByte (s.extract a s.size).data.toList 47) with h | h
      · omega
      · obtain ⟨o, ho⟩ : ∃ o : Nat, Lib.indexByte (s.extract a s.size).data.toList 47 = o := ⟨_, (Int.toNat_of_nonneg h).symm⟩
        obtain ⟨h1, _⟩ := Lib.indexByte_some ho
        have hlt : o < s.size - a := by
          have := (List.getElem?_eq_some_iff.mp h1).1
          rw [data_length, size_cut] at this
          exact this
        exact absurd h1 (no_slash s a s.size o hs (Nat.le_refl _) (by omega))
    rw [Lib.countB_miss _ _ hmiss]
    rfl
  | succ d ih =>
    intro a i hd ha hs
    simp only [pcs]
    by_cases h : bt s (i : Int) = 47
    · rw [if_pos h]
      have hix := index_here s a i ha (by omega) hs h
      have hsz : slash.size = 1 := rfl
      rw [Lib.countB_hit _ _ (i - a) (by rw [hsz]; exact Nat.le_refl 1) hix, Nat.add_comm 1, Lib.splitB_hit _ _ _ _ (i - a) hix, hsz, size_cut, Nat.add_zero]
      have e1 : (s.extract a s.size).extract (i - a + 1) (s.size - a) = s.extract (i + 1) s.size := by
        rw [ext_ext s a s.size _ _ (by omega), show a + (i - a + 1) = i + 1 by omega, show a + (s.size - a) = s.size by omega]
      have e2 : (s.extract a s.size).extract 0 (i - a) = s.extract a i := by
        rw [ext_ext s a s.size _ _ (by omega), Nat.add_zero, show a + (i - a) = i by omega]
      rw [e1, e2, ih (i + 1) (i + 1) (by omega) (Nat.le_refl _) (fun m h1 h2 => by omega)]
    · rw [if_neg h]
      refine ih a (i + 1) (by omega) (by omega) (fun m h1 h2 => ?_)
      by_cases e : m = i
      · rw [e]; exact h
      · exact hs m h1 (by omega)
theorem split_at (s : ByteArray) (hn : s.size ≤ 4000000000) : strings_Split.f s (⟨#[47]⟩ : ByteArray) = some (pieces s) := by
  unfold strings_Split.f
  have hsz : (⟨#[47]⟩ : ByteArray).size = 1 := rfl
  rw [hsz, if_pos (by omega)]
  have := split_pcs s s.size 0 0 (by omega) (by omega) (fun m _ h => by omega)
  rw [ext_all] at this
  rw [show (⟨#[47]⟩ : ByteArray) = slash from rfl, this]; rfl
def partsOf (l : List ByteArray) : List ByteArray × Option Int :=
  if l.all okName = true then (if l.length > 64 then ([], some 2) else (l, none)) else ([], some 30)
def parts (s : ByteArray) : List ByteArray × Option Int :=
  if s.size > 4096 then ([], some 2) else if s.size = 0 then ([], none) else partsOf (pieces s)
theorem drop_getD {α : Type} (l : List α) (d : α) (i : Nat) (h : i < l.length) : l.drop i = l.getD i d :: l.drop (i + 1) := by
  rw [List.getD_eq_getElem?_getD, List.getElem?_eq_getElem h]
  exact List.drop_eq_getElem_cons h
def errNum : Option Int → Int
  | none => 0
  | some n => n
theorem errNum_eq (o : Option Int) : o.getD 0 = errNum o := by cases o <;> rfl
theorem parts_loop (l : List ByteArray) (hn : l.length ≤ 4000000000) (d : Nat) : ∀ (k i : Nat), i + d = l.length → d < k →
    path_Parts.l0 k l l (l.length : Int) (i : Int) = some (if (l.drop i).all okName = true then (if l.length > 64 then ([], some 2) else (l, none)) else ([], some 30)) := by
  induction d with
  | zero =>
    intro k i hd hk
    obtain ⟨k, rfl⟩ : ∃ m, k = m + 1 := ⟨k - 1, by omega⟩
    simp only [path_Parts.l0]
    rw [if_neg (by omega), List.drop_of_length_le (by omega)]
    by_cases h : l.length > 64
    · rw [if_pos (by omega), if_pos h]; rfl
    · rw [if_neg (by omega), if_neg h]; rfl
  | succ d ih =>
    intro k i hd hk
    obtain ⟨k, rfl⟩ : ∃ m, k = m + 1 := ⟨k - 1, by omega⟩
    have w1 : wrap64 ((i : Int) + 1) = ((i + 1 : Nat) : Int) := w_add i 1 (by omega)
    simp only [path_Parts.l0, w1, rd_nat, name_at, Option.bind_some]
    rw [if_pos (by omega), if_pos (by omega), if_pos (by omega), ih k (i + 1) (by omega) (by omega), drop_getD l ByteArray.empty i (by omega), List.all_cons]
    cases okName (l.getD i ByteArray.empty) with
    | true => simp
    | false => simp
theorem parts_at (s : ByteArray) {k : Nat} (hk : s.size + 2 ≤ k) : path_Parts.f k s = some (parts s) := by
  unfold path_Parts.f parts
  by_cases h : s.size > 4096
  · rw [if_pos (by omega), if_pos h]
  · rw [if_neg (by omega), if_neg h]
    by_cases h0 : s.size = 0
    · rw [if_pos ((toList_nil s).mpr h0), if_pos h0]
    · rw [if_neg (fun e => h0 ((toList_nil s).mp e)), if_neg h0, split_at s (by omega)]
      simp only [Option.bind_some]
      have hl := pcs_length s s.size 0 0
      have := parts_loop (pieces s) (by unfold pieces; omega) (pieces s).length k 0 (by omega) (by unfold pieces; omega)
      rw [show ((0 : Nat) : Int) = 0 from rfl, List.drop_zero] at this
      rw [this]; rfl
theorem num_at (o : Option Int) : selvagelaw03_num.f o = some (errNum o) := by
  unfold selvagelaw03_num.f
  rw [errNum_eq]
theorem limSure : selvagelaw03_sure.f 20 = some true := by decide +kernel
def repN (n : Nat) : ByteArray := ⟨(List.replicate n (110 : UInt8)).toArray⟩
theorem repN_size (n : Nat) : (repN n).size = n := by simp [repN, ByteArray.size]
theorem repN_app (n : Nat) : repN n ++ (⟨#[110]⟩ : ByteArray) = repN (n + 1) := by
  apply ByteArray.ext
  rw [ByteArray.data_append]
  apply Array.ext'
  simp [repN, List.replicate_succ']
theorem lim_l0 (d : Nat) : ∀ (k i : Nat), i + d = 255 → selvagelaw03_PathLimits.l0 (k + d + 1) (repN i) (i : Int) = selvagelaw03_PathLimits.l1 k (repN 255) (⟨#[]⟩ : ByteArray) 0 := by
  induction d with
  | zero =>
    intro k i h
    obtain rfl : i = 255 := by omega
    rw [Nat.add_zero, selvagelaw03_PathLimits.l0, if_neg (by omega)]
  | succ d ih =>
    intro k i h
    rw [show k + (d + 1) + 1 = (k + d + 1) + 1 from rfl]
    have e : wrap64 ((i : Int) + 1) = ((i + 1 : Nat) : Int) := w_add i 1 (by omega)
    rw [selvagelaw03_PathLimits.l0, if_pos (by omega), if_pos (by rw [repN_size]; omega), repN_app, e]
    exact ih k (i + 1) (by omega)
def deepN : Nat → ByteArray
  | 0 => ⟨#[]⟩
  | 1 => ⟨#[100]⟩
  | n + 2 => (deepN (n + 1) ++ (⟨#[47]⟩ : ByteArray)) ++ (⟨#[100]⟩ : ByteArray)
theorem deepN_size : ∀ n, (deepN n).size ≤ 2 * n
  | 0 => Nat.le_refl _
  | 1 => by show 1 ≤ 2; omega
  | n + 2 => by
    have := deepN_size (n + 1)
    rw [deepN, ByteArray.size_append, ByteArray.size_append]
    show (deepN (n + 1)).size + 1 + 1 ≤ _
    omega
theorem lim_l1 (d : Nat) : ∀ (k i : Nat), i + d = 64 → selvagelaw03_PathLimits.l1 (k + d + 1) (repN 255) (deepN i) (i : Int) = selvagelaw03_PathLimits.l2 k (repN 255) (deepN 64) (⟨#[]⟩ : ByteArray) := by
  induction d with
  | zero =>
    intro k i h
    obtain rfl : i = 64 := by omega
    rw [Nat.add_zero, selvagelaw03_PathLimits.l1, if_neg (by omega)]
  | succ d ih =>
    intro k i h
    rw [show k + (d + 1) + 1 = (k + d + 1) + 1 from rfl]
    have e : wrap64 ((i : Int) + 1) = ((i + 1 : Nat) : Int) := w_add i 1 (by omega)
    have hs := deepN_size i
    rw [selvagelaw03_PathLimits.l1, if_pos (by omega), e]
    cases i with
    | zero => rw [if_neg (by omega), if_pos (by omega)]; exact ih k 1 (by omega)
    | succ i => rw [if_pos (by omega), if_pos (by omega), if_pos (by omega)]; exact ih k (i + 1 + 1) (by omega)
def longN : Nat → ByteArray
  | 0 => ⟨#[]⟩
  | n + 1 => (longN n ++ repN 200) ++ (⟨#[47]⟩ : ByteArray)
theorem longN_size : ∀ n, (longN n).size = 201 * n
  | 0 => rfl
  | n + 1 => by
    rw [longN, ByteArray.size_append, ByteArray.size_append, longN_size n, repN_size]
    show 201 * n + 200 + 1 = _
    omega
theorem rep_ext : (repN 255).extract 0 200 = repN 200 := by decide +kernel
theorem lim_l2 (d : Nat) : ∀ (k i : Nat), i + d = 20 → selvagelaw03_PathLimits.l2 (k + d + 1) (repN 255) (deepN 64) (longN i) = selvagelaw03_PathLimits.l2 (k + 1) (repN 255) (deepN 64) (longN 20) := by
  induction d with
  | zero =>
    intro k i h
    obtain rfl : i = 20 := by omega
    rfl
  | succ d ih =>
    intro k i h
    rw [show k + (d + 1) + 1 = (k + d + 1) + 1 from rfl]
    have e : wrap64 (((longN i).size : Int) + 201) = (((longN i).size + 201 : Nat) : Int) := w_add _ 201 (by rw [longN_size]; omega)
    rw [selvagelaw03_PathLimits.l2, if_pos (by rw [e, longN_size]; omega), if_pos (by omega), if_pos (by rw [repN_size]; omega), rep_ext, if_pos (by rw [longN_size, repN_size]; omega), if_pos (by rw [longN_size, repN_size]; omega)]
    exact ih k (i + 1) (by omega)
theorem rep_ext2 : (repN 255).extract 0 76 = repN 76 := by decide +kernel
theorem lim_par1 : (parts (repN 255)).2 = none := by decide +kernel
theorem lim_par2 : (parts (repN 255 ++ (⟨#[110]⟩ : ByteArray))).2 = some 30 := by decide +kernel
theorem lim_par3 : (parts (deepN 64)).2 = none := by decide +kernel
theorem lim_par4 : (parts (deepN 64 ++ (⟨#[47, 100]⟩ : ByteArray))).2 = some 2 := by decide +kernel
theorem lim_par6 : (parts ((longN 20 ++ repN 76) ++ (⟨#[110]⟩ : ByteArray))).2 = some 2 := by
  unfold parts
  rw [if_pos (by rw [ByteArray.size_append, ByteArray.size_append, longN_size, repN_size]; show 4096 < 201 * 20 + 76 + 1; omega)]
def joinAll (l : List ByteArray) : ByteArray := joinP l slash l.length
theorem joinAll_size (l : List ByteArray) : ((joinAll l).size : Int) = if l.length = 0 then 0 else (l.length : Int) - 1 + (sumP l l.length : Int) := by
  unfold joinAll
  by_cases h : l.length = 0
  · rw [if_pos h, h]; rfl
  · obtain ⟨n, hn⟩ : ∃ n, l.length = n + 1 := ⟨l.length - 1, by omega⟩
    have := joinP_size l slash n
    have hs : slash.size = 1 := rfl
    rw [if_neg h, hn, this, hs]
    omega
theorem app_assoc (a b c : ByteArray) : (a ++ b) ++ c = a ++ (b ++ c) := by
  apply ba_ext
  rw [app_data, app_data, app_data, app_data, List.append_assoc]
theorem joinP_prefix (l : List ByteArray) (sep : ByteArray) (n m : Nat) (h : n ≤ m) : ∃ T : ByteArray, joinP l sep m = joinP l sep n ++ T := by
  induction m with
  | zero => obtain rfl : n = 0 := (by omega); exact ⟨⟨#[]⟩, (app_nil _).symm⟩
  | succ m ih =>
    by_cases e : n = m + 1
    · rw [e]; exact ⟨⟨#[]⟩, (app_nil _).symm⟩
    · obtain ⟨T, hT⟩ := ih (by omega)
      refine ⟨T ++ (if m = 0 then ⟨#[]⟩ else sep) ++ l.getD m ByteArray.empty, ?_⟩
      simp only [joinP]
      rw [hT, app_assoc, app_assoc, app_assoc]
theorem mid_extract (P x T : ByteArray) : ((P ++ x) ++ T).extract P.size (P.size + x.size) = x := by
  apply ba_ext
  rw [Lib.extract_data, app_data, app_data, List.append_assoc, ← data_length P, List.drop_left, Nat.add_sub_cancel_left, ← data_length x, List.take_left]
theorem mid_bt (P x T : ByteArray) (m : Nat) (h : m < x.size) : bt ((P ++ x) ++ T) ((P.size + m : Nat) : Int) = bt x (m : Int) := by
  rw [bt_append_left _ _ _ (by rw [ByteArray.size_append]; omega), bt_append_right]
theorem pcs_skip (s : ByteArray) (m : Nat) : ∀ (d a i : Nat), (∀ j, j < m → ¬ bt s ((i + j : Nat) : Int) = 47) → pcs s (m + d) a i = pcs s d a (i + m) := by
  induction m with
  | zero => intro d a i _; rw [Nat.zero_add, Nat.add_zero]
  | succ m ih =>
    intro d a i h
    rw [show m + 1 + d = (m + d) + 1 by omega]
    simp only [pcs]
    have h0 := h 0 (by omega)
    rw [Nat.add_zero] at h0
    rw [if_neg h0, ih d a (i + 1) (fun j hj => by have := h (j + 1) (by omega); rw [show i + 1 + j = i + (j + 1) by omega]; exact this), show i + 1 + m = i + (m + 1) by omega]
def flat (x : ByteArray) : Prop := ∀ m : Nat, m < x.size → ¬ bt x (m : Int) = 47
theorem pcs_join (l : List ByteArray) (hf : ∀ x ∈ l, flat x) (r : Nat) : ∀ (j : Nat) (P : ByteArray), j + r + 1 = l.length → P = joinP l slash j ++ (if j = 0 then ⟨#[]⟩ else slash) →
    P.size ≤ (joinAll l).size ∧ pcs (joinAll l) ((joinAll l).size - P.size) P.size P.size = l.drop j := by
  induction r with
  | zero =>
    intro j P hj hP
    have hx : flat (l.getD j ByteArray.empty) := by
      rw [List.getD_eq_getElem?_getD, List.getElem?_eq_getElem (by omega)]
      exact hf _ (List.getElem_mem _)
    have hs : joinAll l = P ++ l.getD j ByteArray.empty := by
      unfold joinAll
      rw [show l.length = j + 1 by omega, hP]; rfl
    have hsz : (joinAll l).size = P.size + (l.getD j ByteArray.empty).size := by rw [hs, ByteArray.size_append]
    refine ⟨by omega, ?_⟩
    have hsk := pcs_skip (joinAll l) (l.getD j ByteArray.empty).size 0 P.size P.size (fun m hm => by
      rw [hs, ← app_nil (P ++ l.getD j ByteArray.empty), mid_bt _ _ _ _ hm]; exact hx m hm)
    rw [show (joinAll l).size - P.size = (l.getD j ByteArray.empty).size + 0 by omega, hsk, drop_getD l ByteArray.empty j (by omega), List.drop_of_length_le (by omega)]
    simp only [pcs]
    rw [hs, ← app_nil (P ++ l.getD j ByteArray.empty), mid_extract]
  | succ r ih =>
    intro j P hj hP
    have hx : flat (l.getD j ByteArray.empty) := by
      rw [List.getD_eq_getElem?_getD, List.getElem?_eq_getElem (by omega)]
      exact hf _ (List.getElem_mem _)
    have h1 : joinP l slash (j + 1) = P ++ l.getD j ByteArray.empty := by rw [hP]; rfl
    have h2 : joinP l slash (j + 2) = ((P ++ l.getD j ByteArray.empty) ++ slash) ++ l.getD (j + 1) ByteArray.empty := by
      rw [← h1]; rfl
    obtain ⟨T, hT⟩ := joinP_prefix l slash (j + 2) l.length (by omega)
    obtain ⟨i1, i2⟩ := ih (j + 1) ((P ++ l.getD j ByteArray.empty) ++ slash) (by omega) (by rw [h1, if_neg (by omega)])
    obtain ⟨U, hU⟩ : ∃ U : ByteArray, joinAll l = (P ++ l.getD j ByteArray.empty) ++ (slash ++ U) := ⟨l.getD (j + 1) ByteArray.empty ++ T, by
      unfold joinAll; rw [hT, h2]; simp only [app_assoc]⟩
    have hs1 : slash.size = 1 := rfl
    have hsz2 : ((P ++ l.getD j ByteArray.empty) ++ slash).size = P.size + (l.getD j ByteArray.empty).size + 1 := by rw [ByteArray.size_append, ByteArray.size_append, hs1]
    rw [hsz2] at i1 i2
    refine ⟨by omega, ?_⟩
    have hsk := pcs_skip (joinAll l) (l.getD j ByteArray.empty).size ((joinAll l).size - P.size - (l.getD j ByteArray.empty).size) P.size P.size (fun m hm => by
      rw [hU, mid_bt _ _ _ _ hm]; exact hx m hm)
    have h47 : bt (joinAll l) ((P.size + (l.getD j ByteArray.empty).size : Nat) : Int) = 47 := by
      have := bt_append_right (P ++ l.getD j ByteArray.empty) (slash ++ U) 0
      rw [ByteArray.size_append, Nat.add_zero] at this
      rw [hU, this]
      have h3 := bt_append_left slash U 0 (by decide)
      rw [h3]; rfl
    rw [show (joinAll l).size - P.size = (l.getD j ByteArray.empty).size + ((joinAll l).size - P.size - (l.getD j ByteArray.empty).size) by omega, hsk, drop_getD l ByteArray.empty j (by omega)]
    obtain ⟨q, hq⟩ : ∃ q, (joinAll l).size - P.size - (l.getD j ByteArray.empty).size = q + 1 := ⟨(joinAll l).size - P.size - (l.getD j ByteArray.empty).size - 1, by omega⟩
    rw [hq]
    simp only [pcs]
    have hex : (joinAll l).extract P.size (P.size + (l.getD j ByteArray.empty).size) = l.getD j ByteArray.empty := by rw [hU, mid_extract]
    rw [if_pos h47, hex, ← i2]
    congr 2
    omega
theorem pieces_join (l : List ByteArray) (hf : ∀ x ∈ l, flat x) (hl : 0 < l.length) : pieces (joinAll l) = l := by
  have := (pcs_join l hf (l.length - 1) 0 ⟨#[]⟩ (by omega) (by rw [if_pos rfl]; rfl)).2
  have h0 : (⟨#[]⟩ : ByteArray).size = 0 := rfl
  rw [h0, Nat.sub_zero, List.drop_zero] at this
  exact this
theorem ok_facts (x : ByteArray) (h : okName x = true) : flat x ∧ ¬ x.toList = ([] : List UInt8) ∧ ¬ x.toList = ([46] : List UInt8) ∧ ¬ x.toList = ([46, 46] : List UInt8) ∧ x.size ≤ 255 := by
  unfold okName at h
  simp only [Bool.and_eq_true, Bool.not_eq_true', beq_eq_false_iff_ne, decide_eq_true_eq] at h
  obtain ⟨⟨⟨⟨h1, h2⟩, h3⟩, h4⟩, h5⟩ := h
  refine ⟨fun m hm h47 => ?_, h1, h3, h4, h2⟩
  obtain ⟨b, hb, hv⟩ := bt_get x m hm
  have hmem : b ∈ x.data.toList := by
    have : b ∈ x.data.toList.drop m := by rw [hb]; exact List.mem_cons_self
    exact List.mem_of_mem_drop this
  have := (nb_int b).mp (List.all_eq_true.mp h5 b hmem)
  omega
theorem joinAll_nil_iff (l : List ByteArray) (hok : l.all okName = true) : (joinAll l).size = 0 ↔ l.length = 0 := by
  have hs := joinAll_size l
  constructor
  · intro h
    by_cases z : l.length = 0
    · exact z
    · rw [if_neg z, h] at hs
      have h0 := (ok_facts (l.getD 0 ByteArray.empty) (by
        rw [List.getD_eq_getElem?_getD, List.getElem?_eq_getElem (by omega)]
        exact List.all_eq_true.mp hok _ (List.getElem_mem _))).2.1
      have h1 : sumP l 1 = (l.getD 0 ByteArray.empty).size := by simp [sumP]
      have h2 := sumP_le l 1 l.length (by omega)
      have h3 : ¬ (l.getD 0 ByteArray.empty).size = 0 := fun e => h0 ((toList_nil _).mpr e)
      omega
  · intro h
    rw [if_pos h] at hs
    omega
theorem parts_join (l : List ByteArray) (hok : l.all okName = true) (h64 : ¬ l.length > 64) (h4096 : ¬ (joinAll l).size > 4096) : parts (joinAll l) = (l, none) := by
  unfold parts
  rw [if_neg h4096]
  by_cases z : l.length = 0
  · rw [if_pos ((joinAll_nil_iff l hok).mpr z), List.eq_nil_of_length_eq_zero z]
  · rw [if_neg (fun e => z ((joinAll_nil_iff l hok).mp e)), pieces_join l (fun x hx => (ok_facts x (List.all_eq_true.mp hok x hx)).1) (by omega)]
    unfold partsOf
    rw [if_pos hok, if_neg h64]
theorem ok200 : okName (repN 200) = true := by decide +kernel
theorem ok76 : okName (repN 76) = true := by decide +kernel
def longL : List ByteArray := List.replicate 20 (repN 200) ++ [repN 76]
theorem longL_get (n : Nat) (h : n < 20) : longL.getD n ByteArray.empty = repN 200 := by
  unfold longL
  rw [List.getD_eq_getElem?_getD, List.getElem?_append_left (by rw [List.length_replicate]; exact h), List.getElem?_replicate, if_pos h]
  rfl
theorem long_join : ∀ n, n ≤ 20 → joinP longL slash n ++ (if n = 0 then (⟨#[]⟩ : ByteArray) else slash) = longN n
  | 0, _ => by rw [if_pos rfl]; rfl
  | n + 1, h => by
    have ih := long_join n (by omega)
    rw [if_neg (by omega), joinP, ih, longL_get n (by omega)]
    rfl
theorem long_eq : longN 20 ++ repN 76 = joinAll longL := by
  have h := long_join 20 (Nat.le_refl _)
  have hl : longL.length = 20 + 1 := by unfold longL; rw [List.length_append, List.length_replicate]; rfl
  have hg : longL.getD 20 ByteArray.empty = repN 76 := by
    unfold longL
    rw [List.getD_eq_getElem?_getD, List.getElem?_append_right (by rw [List.length_replicate]; omega), List.length_replicate]
    rfl
  unfold joinAll
  rw [hl, joinP, h, hg]
theorem lim_par5 : (parts (longN 20 ++ repN 76)).2 = none := by
  have hok : longL.all okName = true := by
    unfold longL
    rw [List.all_append, List.all_replicate, ok200]
    simp [ok76]
  have hl : longL.length = 21 := by unfold longL; rw [List.length_append, List.length_replicate]; rfl
  rw [long_eq, parts_join _ hok (by rw [hl]; omega) (by rw [← long_eq, ByteArray.size_append, longN_size, repN_size]; omega)]
theorem sure_at : ∀ d : Nat, selvagelaw03_sure.f (20 + d) = some true
  | 0 => limSure
  | d + 1 => selvagelaw03_sure.mono (20 + d) _ (sure_at d)
theorem lim_end (k : Nat) (X D G Z : ByteArray) (hk : 5000 ≤ k) (hX : X.size = 255) (hD : D.size ≤ 128) (hG : G.size = 4020) (hZ : X.extract 0 76 = Z) (hZs : Z.size = 76)
    (p1 : (parts X).2 = none) (p2 : (parts (X ++ (⟨#[110]⟩ : ByteArray))).2 = some 30) (p3 : (parts D).2 = none) (p4 : (parts (D ++ (⟨#[47, 100]⟩ : ByteArray))).2 = some 2)
    (p5 : (parts (G ++ Z)).2 = none) (p6 : (parts ((G ++ Z) ++ (⟨#[110]⟩ : ByteArray))).2 = some 2) : selvagelaw03_PathLimits.l2 (k + 1) X D G = some true := by
  have w1 : wrap64 ((G.size : Int) + 201) = 4221 := by rw [w64' (by omega) (by omega)]; omega
  have w2 : wrap64 (4096 - (G.size : Int)) = 76 := by rw [w64' (by omega) (by omega)]; omega
  have z : (76 : Int).toNat = 76 := rfl
  have s1 : (⟨#[110]⟩ : ByteArray).size = 1 := rfl
  have s2 : (⟨#[47, 100]⟩ : ByteArray).size = 2 := rfl
  obtain ⟨d, hd⟩ : ∃ d, k = 20 + d := ⟨k - 20, by omega⟩
  have hsure : selvagelaw03_sure.f k = some true := by rw [hd]; exact sure_at d
  simp only [selvagelaw03_PathLimits.l2, w1, w2, z, hZ]
  rw [if_neg (by omega), if_pos (by omega), if_pos (by omega), if_pos (by omega),
    parts_at X (by omega), parts_at (X ++ (⟨#[110]⟩ : ByteArray)) (by rw [ByteArray.size_append, s1]; omega), parts_at D (by omega), parts_at (D ++ (⟨#[47, 100]⟩ : ByteArray)) (by rw [ByteArray.size_append, s2]; omega),
    parts_at (G ++ Z) (by rw [ByteArray.size_append]; omega), parts_at ((G ++ Z) ++ (⟨#[110]⟩ : ByteArray)) (by rw [ByteArray.size_append, ByteArray.size_append, s1]; omega)]
  simp only [Option.bind_some]
  rw [if_pos (by omega), if_pos (by omega), if_pos (by omega), p1, p2, p3, p4, p5, p6]
  simp only [num_at, errNum, Option.bind_some, Option.isNone_none, if_true, hsure]
theorem PathLimits : ∃ k, selvagelaw03_PathLimits.f k = some true := by
  have h0 := fun k => lim_l0 255 k 0 (by omega)
  have h1 := fun k => lim_l1 64 k 0 (by omega)
  have h2 := fun k => lim_l2 20 k 0 (by omega)
  have h3 := lim_end 5000 (repN 255) (deepN 64) (longN 20) (repN 76) (Nat.le_refl _) (repN_size _) (deepN_size 64) (longN_size 20) rep_ext2 (repN_size _) lim_par1 lim_par2 lim_par3 lim_par4 lim_par5 lim_par6
  obtain ⟨K0, hK0⟩ : ∃ K, K = 5000 + 20 + 1 := ⟨_, rfl⟩
  obtain ⟨K1, hK1⟩ : ∃ K, K = K0 + 64 + 1 := ⟨_, rfl⟩
  obtain ⟨K2, hK2⟩ : ∃ K, K = K1 + 255 + 1 := ⟨_, rfl⟩
  refine ⟨K2, ?_⟩
  have e2 : selvagelaw03_PathLimits.l2 K0 (repN 255) (deepN 64) (⟨#[]⟩ : ByteArray) = some true := by rw [hK0]; exact (h2 5000).trans h3
  have e1 : selvagelaw03_PathLimits.l1 K1 (repN 255) (⟨#[]⟩ : ByteArray) 0 = some true := by rw [hK1]; exact (h1 K0).trans e2
  have e0 : selvagelaw03_PathLimits.l0 K2 (⟨#[]⟩ : ByteArray) 0 = some true := by rw [hK2]; exact (h0 K1).trans e1
  exact e0
end Go.Proofs.YtflkehpgkiomdaaDoor.Pure
