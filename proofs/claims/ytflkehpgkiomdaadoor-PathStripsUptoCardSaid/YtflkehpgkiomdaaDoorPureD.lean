/-
  path, in plain Lean: Strip; the law PathStrips.
-/
import Derived.Test.YtflkehpgkiomdaaDoorPureB
import Derived.Test.YtflkehpgkiomdaaDoorPp5
import Derived.Lib.TrimByte
namespace Go.Proofs.YtflkehpgkiomdaaDoor.Pure
open Go.RowKit Go.Proofs.YtflkehpgkiomdaaDoor.Pp Go.Proofs.YtflkehpgkiomdaaDoor.Ext Go.Proofs.YtflkehpgkiomdaaDoorW.PrintWords Go.Proofs.YtflkehpgkiomdaaDoorW.PrintLast

/-- the first slash from i on; the size, if there is none -/
def fs (s : ByteArray) : Nat → Nat → Nat
  | 0, i => i
  | d + 1, i => if bt s (i : Int) = 47 then i else fs s d (i + 1)
/-- the first byte from i on that is no slash -/
def ns (s : ByteArray) : Nat → Nat → Nat
  | 0, i => i
  | d + 1, i => if bt s (i : Int) = 47 then ns s d (i + 1) else i
theorem fs_facts (s : ByteArray) (d : Nat) : ∀ i, i + d = s.size → i ≤ fs s d i ∧ fs s d i ≤ s.size ∧ (∀ m, i ≤ m → m < fs s d i → ¬ bt s (m : Int) = 47) ∧ (fs s d i < s.size → bt s ((fs s d i : Nat) : Int) = 47) := by
  induction d with
  | zero => intro i h; exact ⟨Nat.le_refl _, by simp only [fs]; omega, fun m h1 h2 => by simp only [fs] at h2; omega, fun h2 => by simp only [fs] at h2; omega⟩
  | succ d ih =>
    intro i h
    simp only [fs]
    by_cases c : bt s (i : Int) = 47
    · rw [if_pos c]
      exact ⟨Nat.le_refl _, by omega, fun m h1 h2 => by omega, fun _ => c⟩
    · rw [if_neg c]
      obtain ⟨h1, h2, h3, h4⟩ := ih (i + 1) (by omega)
      refine ⟨by omega, h2, fun m h5 h6 => ?_, h4⟩
      by_cases e : m = i
      · rw [e]; exact c
      · exact h3 m (by omega) h6
theorem ns_facts (s : ByteArray) (d : Nat) : ∀ i, i + d = s.size → i ≤ ns s d i ∧ ns s d i ≤ s.size ∧ (∀ m, i ≤ m → m < ns s d i → bt s (m : Int) = 47) ∧ (ns s d i < s.size → ¬ bt s ((ns s d i : Nat) : Int) = 47) := by
  induction d with
  | zero => intro i h; exact ⟨Nat.le_refl _, by simp only [ns]; omega, fun m h1 h2 => by simp only [ns] at h2; omega, fun h2 => by simp only [ns] at h2; omega⟩
  | succ d ih =>
    intro i h
    simp only [ns]
    by_cases c : bt s (i : Int) = 47
    · rw [if_pos c]
      obtain ⟨h1, h2, h3, h4⟩ := ih (i + 1) (by omega)
      refine ⟨by omega, h2, fun m h5 h6 => ?_, h4⟩
      by_cases e : m = i
      · rw [e]; exact c
      · exact h3 m (by omega) h6
    · rw [if_neg c]
      exact ⟨Nat.le_refl _, by omega, fun m h1 h2 => by omega, fun _ => c⟩
def slashAt (s : ByteArray) : Nat := fs s s.size 0
def restAt (s : ByteArray) : Nat := ns s (s.size - slashAt s) (slashAt s)

theorem bt_47 (s : ByteArray) (i : Nat) (b : UInt8) (h : s.data.toList[i]? = some b) : b = 47 ↔ bt s (i : Int) = 47 := by
  rw [bt_list, List.getD_eq_getElem?_getD, h]
  simp only [Option.getD_some]
  exact ⟨fun h => by rw [h]; rfl, fun h => UInt8.toNat_inj.mp (by have : (47 : UInt8).toNat = 47 := rfl; omega)⟩
theorem indexByte_at (s : ByteArray) : strings_IndexByte.f s 47 = some (if slashAt s = s.size then -1 else (slashAt s : Int)) := by
  unfold strings_IndexByte.f
  have h47 : UInt8.ofNat (47 : Int).toNat = 47 := rfl
  rw [h47]
  obtain ⟨h1, h2, h3, h4⟩ := fs_facts s s.size 0 (by omega)
  by_cases h : slashAt s = s.size
  · rw [if_pos h]
    have hmiss : Lib.indexByte s.data.toList 47 = -1 := by
      have hge := Lib.indexByte_ge s.data.toList 47
      rcases (by omega : Lib.indexByte s.data.toList 47 < 0 ∨ 0 ≤ Lib.indexByte s.data.toList 47) with c | c
      · omega
      · obtain ⟨o, ho⟩ : ∃ o : Nat, Lib.indexByte s.data.toList 47 = o := ⟨_, (Int.toNat_of_nonneg c).symm⟩
        obtain ⟨e1, _⟩ := Lib.indexByte_some ho
        have hlt : o < s.size := by
          have := (List.getElem?_eq_some_iff.mp e1).1
          rw [data_length] at this
          exact this
        unfold slashAt at h
        exact absurd ((bt_47 s o 47 e1).mp rfl) (h3 o (by omega) (by omega))
    rw [hmiss]
  · rw [if_neg h]
    have hlt : slashAt s < s.size := by unfold slashAt at h ⊢; omega
    have := index_here s 0 (slashAt s) (by omega) hlt (fun m a b => h3 m (by omega) b) (h4 hlt)
    rw [indexB_slash, ext_all] at this
    rw [this]; rfl
theorem trimLeft_at (s : ByteArray) : strings_TrimLeft.f (s.extract (slashAt s) s.size) (⟨#[47]⟩ : ByteArray) = some (s.extract (restAt s) s.size) := by
  obtain ⟨h1, h2, h3, h4⟩ := fs_facts s s.size 0 (by omega)
  have e0 : slashAt s = fs s s.size 0 := rfl
  obtain ⟨g1, g2, g3, g4⟩ := ns_facts s (s.size - slashAt s) (slashAt s) (by omega)
  have e1 : restAt s = ns s (s.size - slashAt s) (slashAt s) := rfl
  rw [← e1] at g1 g2 g3 g4
  unfold strings_TrimLeft.f
  have ho : oneAscii (⟨#[47]⟩ : ByteArray) = some 47 := rfl
  rw [ho, Option.map_some]
  congr 1
  apply ba_ext
  have hg : ∀ j, (s.extract (slashAt s) s.size).data.toList[j]? = if j < s.size - slashAt s then s.data.toList[slashAt s + j]? else none := by
    intro j
    rw [Lib.extract_data, List.getElem?_take]
    by_cases hj : j < s.size - slashAt s
    · rw [if_pos hj, if_pos hj, List.getElem?_drop]
    · rw [if_neg hj, if_neg hj]
  have := Lib.trimLeftB_drop (s.extract (slashAt s) s.size).data.toList 47 (restAt s - slashAt s) (by rw [data_length, size_cut]; omega)
    (fun j b hj hb => by
      rw [hg, if_pos (by omega)] at hb
      exact (bt_47 s _ b hb).mpr (g3 (slashAt s + j) (by omega) (by omega)))
    (fun b hb he => by
      rw [hg] at hb
      by_cases hj : restAt s - slashAt s < s.size - slashAt s
      · rw [if_pos hj, show slashAt s + (restAt s - slashAt s) = restAt s by omega] at hb
        exact g4 (by omega) ((bt_47 s _ b hb).mp he)
      · rw [if_neg hj] at hb; cases hb)
  show (Lib.trimLeftB (s.extract (slashAt s) s.size).data.toList 47) = _
  rw [this, Lib.extract_data, Lib.extract_data, List.drop_take, List.drop_drop]
  congr 1
  · omega
  · congr 1; omega

/-- what is left when m components are stripped -/
def stripN : Nat → ByteArray → Int → ByteArray × Option Int
  | 0, _, _ => (⟨#[]⟩, none)
  | d + 1, s, m =>
    if m > 0 then (if slashAt s = s.size then (⟨#[]⟩, some 32) else stripN d (s.extract (restAt s) s.size) (m - 1))
    else if s.size = 0 then (⟨#[]⟩, some 32) else (s, none)
theorem rest_lt (s : ByteArray) (h : ¬ slashAt s = s.size) : slashAt s < restAt s ∧ restAt s ≤ s.size ∧ slashAt s < s.size := by
  obtain ⟨h1, h2, h3, h4⟩ := fs_facts s s.size 0 (by omega)
  have e0 : slashAt s = fs s s.size 0 := rfl
  obtain ⟨g1, g2, g3, g4⟩ := ns_facts s (s.size - slashAt s) (slashAt s) (by omega)
  have e1 : restAt s = ns s (s.size - slashAt s) (slashAt s) := rfl
  rw [← e1] at g1 g2 g3 g4
  rw [← e0] at h1 h2 h3 h4
  refine ⟨?_, g2, by omega⟩
  by_cases e : restAt s = slashAt s
  · exact absurd (h4 (by omega)) (by rw [← e]; exact g4 (by omega))
  · omega
theorem strip_loop (n : Int) (hn : n ≤ 9223372036854775807) (d : Nat) : ∀ (k : Nat) (s : ByteArray) (i : Int), s.size < d → d ≤ k → 0 ≤ i →
    path_Strip.l0 k s n i = some (stripN d s (n - i)) := by
  induction d with
  | zero => intro k s i h; omega
  | succ d ih =>
    intro k s i h hk hi
    obtain ⟨k, rfl⟩ : ∃ m, k = m + 1 := ⟨k - 1, by omega⟩
    simp only [path_Strip.l0, stripN]
    by_cases c : i < n
    · rw [if_pos c, if_pos (by omega), indexByte_at, Option.bind_some]
      by_cases z : slashAt s = s.size
      · rw [if_pos z, if_pos (by omega), if_pos z]
      · have hr := rest_lt s z
        rw [if_neg z, if_neg (by omega), if_pos (by omega), if_pos (by omega), Int.toNat_natCast, trimLeft_at, Option.bind_some, if_neg z, w64' (by omega) (by omega)]
        rw [ih k _ (i + 1) (by rw [size_cut]; omega) (by omega) (by omega), show n - (i + 1) = n - i - 1 by omega]
    · rw [if_neg c, if_neg (show ¬ n - i > 0 by omega)]
      by_cases z : s.size = 0
      · rw [if_pos ((toList_nil s).mpr z), if_pos z]
      · rw [if_neg (fun e => z ((toList_nil s).mp e)), if_neg z]

/-- the end without slashes -/
def tr (s : ByteArray) : Nat → Nat
  | 0 => 0
  | n + 1 => if bt s (n : Int) = 47 then tr s n else n + 1
theorem tr_facts (s : ByteArray) (n : Nat) : tr s n ≤ n ∧ (∀ m, tr s n ≤ m → m < n → bt s (m : Int) = 47) ∧ (0 < tr s n → ¬ bt s ((tr s n - 1 : Nat) : Int) = 47) := by
  induction n with
  | zero => exact ⟨Nat.le_refl _, fun m h1 h2 => by omega, fun h => by simp only [tr] at h; omega⟩
  | succ n ih =>
    simp only [tr]
    by_cases c : bt s (n : Int) = 47
    · rw [if_pos c]
      refine ⟨by omega, fun m h1 h2 => ?_, ih.2.2⟩
      by_cases e : m = n
      · rw [e]; exact c
      · exact ih.2.1 m h1 (by omega)
    · rw [if_neg c]
      exact ⟨Nat.le_refl _, fun m h1 h2 => by omega, fun _ => by rw [Nat.add_sub_cancel]; exact c⟩
theorem trimRight_at (s : ByteArray) (hs : s.size ≤ 4000000000) : strings_TrimRight.f s (⟨#[47]⟩ : ByteArray) = some (s.extract 0 (tr s s.size)) := by
  obtain ⟨h1, h2, h3⟩ := tr_facts s s.size
  unfold strings_TrimRight.f
  have ho : oneAscii (⟨#[47]⟩ : ByteArray) = some 47 := rfl
  rw [if_pos (by omega), ho, Option.map_some]
  congr 1
  apply ba_ext
  have := Lib.trimRightB_take s.data.toList 47 (tr s s.size) (by rw [data_length]; exact h1)
    (fun j b hj hb => by
      have hlt := (List.getElem?_eq_some_iff.mp hb).1
      rw [data_length] at hlt
      exact (bt_47 s j b hb).mpr (h2 j hj hlt))
    (fun b hp hb he => h3 hp ((bt_47 s _ b hb).mp he))
  show (Lib.trimRightB s.data.toList 47) = _
  rw [this, Lib.extract_data, List.drop_zero, Nat.sub_zero]
def stripS (s : ByteArray) (n : Int) : ByteArray × Option Int :=
  if n < -1 then (⟨#[]⟩, some 1) else if n = -1 then stripN (s.size + 1) (base (s.extract 0 (tr s s.size))) (-1) else stripN (s.size + 1) s n
theorem base_size (s : ByteArray) : (base s).size ≤ s.size := by
  unfold base; rw [ByteArray.size_extract]; omega
theorem strip_at (s : ByteArray) (n : Int) (hs : s.size ≤ 4000000000) (hn : n ≤ 9223372036854775807) {k : Nat} (hk : s.size + 5 ≤ k) : path_Strip.f k s n = some (stripS s n) := by
  obtain ⟨k, rfl⟩ : ∃ m, k = m + 1 := ⟨k - 1, by omega⟩
  unfold path_Strip.f stripS
  by_cases h1 : n < -1
  · rw [if_pos h1, if_pos h1]
  · rw [if_neg h1, if_neg h1]
    by_cases h2 : n = -1
    · have ht := (tr_facts s s.size).1
      have hsz : (s.extract 0 (tr s s.size)).size ≤ s.size := by rw [ByteArray.size_extract]; omega
      have hb := base_size (s.extract 0 (tr s s.size))
      rw [if_pos h2, if_pos h2, trimRight_at s hs, Option.bind_some, base_at _ (by omega) (by omega), Option.bind_some]
      simp only [path_Strip.j0]
      rw [strip_loop n hn (s.size + 1) k _ 0 (by omega) (by omega) (by omega), h2]
      rfl
    · rw [if_neg h2, if_neg h2]
      simp only [path_Strip.j0]
      rw [strip_loop n hn (s.size + 1) k s 0 (by omega) (by omega) (by omega), Int.sub_zero]

/-! ### the reference's -/
theorem ref_l3 (s : ByteArray) (hs : s.size ≤ 4000000000) (m : Int) (hm0 : 0 < m) (hm : m ≤ 9223372036854775807) (d : Nat) : ∀ (k i : Nat), i + d = s.size → selvageref03_Strip.l3 (k + d + 1) s m (i : Int) = selvageref03_Strip.l1 (k + d + 1 - (ns s d i - i) - 1) (s.extract (ns s d i) s.size) (m - 1) := by
  induction d with
  | zero =>
    intro k i h
    simp only [selvageref03_Strip.l3, ns]
    rw [if_neg (by omega), if_pos (by omega), if_pos (by omega), Int.toNat_natCast, w64' (by omega) (by omega)]
    congr 1
    omega
  | succ d ih =>
    intro k i h
    have w1 : wrap64 ((i : Int) + 1) = ((i + 1 : Nat) : Int) := w_add i 1 (by omega)
    obtain ⟨K, hK⟩ : ∃ K, k + d + 1 = K := ⟨_, rfl⟩
    rw [show k + (d + 1) + 1 = K + 1 by omega]
    simp only [selvageref03_Strip.l3, ns, w1]
    rw [if_pos (by omega), if_pos (by omega)]
    by_cases c : bt s (i : Int) = 47
    · have hf := ns_facts s d (i + 1) (by omega)
      rw [if_pos c, if_pos c, ← hK, ih k (i + 1) (by omega)]
      congr 1
      omega
    · rw [if_neg c, if_neg c, if_pos (by omega), Int.toNat_natCast, w64' (by omega) (by omega)]
      congr 1
      omega
theorem ref_l2 (s : ByteArray) (hs : s.size ≤ 4000000000) (m : Int) (d : Nat) : ∀ (k i : Nat), i + d = s.size → selvageref03_Strip.l2 (k + d + 1) s m (i : Int) = selvageref03_Strip.j4 (k + d + 1 - (fs s d i - i) - 1) s m ((fs s d i : Nat) : Int) := by
  induction d with
  | zero =>
    intro k i h
    simp only [selvageref03_Strip.l2, fs]
    rw [if_neg (by omega)]
    congr 1
    omega
  | succ d ih =>
    intro k i h
    have w1 : wrap64 ((i : Int) + 1) = ((i + 1 : Nat) : Int) := w_add i 1 (by omega)
    obtain ⟨K, hK⟩ : ∃ K, k + d + 1 = K := ⟨_, rfl⟩
    rw [show k + (d + 1) + 1 = K + 1 by omega]
    simp only [selvageref03_Strip.l2, fs, w1]
    rw [if_pos (by omega), if_pos (by omega)]
    by_cases c : bt s (i : Int) = 47
    · rw [if_pos c, if_pos c]
      congr 1
      omega
    · have hf := fs_facts s d (i + 1) (by omega)
      rw [if_neg c, if_neg c, ← hK, ih k (i + 1) (by omega)]
      congr 1
      omega
theorem ref_l1 (M : Nat) (hM : M ≤ 4000000000) (d : Nat) : ∀ (k : Nat) (s : ByteArray) (m : Int), s.size < d → s.size ≤ M → m ≤ 9223372036854775807 → d * (M + 10) ≤ k →
    selvageref03_Strip.l1 k s m = some ((stripN d s m).1, errNum (stripN d s m).2) := by
  induction d with
  | zero => intro k s m h; omega
  | succ d ih =>
    intro k s m h hs hm hk
    rw [Nat.succ_mul] at hk
    obtain ⟨k, rfl⟩ : ∃ x, k = x + 1 := ⟨k - 1, by omega⟩
    simp only [selvageref03_Strip.l1, stripN]
    by_cases c : m > 0
    · rw [if_pos c, if_pos c]
      obtain ⟨k2, rfl⟩ : ∃ x, k = x + s.size + 1 := ⟨k - s.size - 1, by omega⟩
      have h2 := ref_l2 s (by omega) m s.size k2 0 (by omega)
      rw [show ((0 : Nat) : Int) = 0 from rfl] at h2
      have hf := fs_facts s s.size 0 (by omega)
      have e0 : slashAt s = fs s s.size 0 := rfl
      rw [h2, ← e0]
      rw [← e0] at hf
      by_cases z : slashAt s = s.size
      · obtain ⟨k3, hk3⟩ : ∃ x, k2 + s.size + 1 - (slashAt s - 0) - 1 = x + 1 := ⟨k2 + s.size + 1 - (slashAt s - 0) - 1 - 1, by omega⟩
        rw [hk3]
        simp only [selvageref03_Strip.j4]
        rw [if_pos (by omega), if_pos z]; rfl
      · have hr := rest_lt s z
        obtain ⟨k3, hk3⟩ : ∃ x, k2 + s.size + 1 - (slashAt s - 0) - 1 = (x + (s.size - slashAt s) + 1) + 1 := ⟨k2 + s.size + 1 - (slashAt s - 0) - 1 - 1 - (s.size - slashAt s) - 1, by omega⟩
        rw [hk3]
        simp only [selvageref03_Strip.j4]
        rw [if_neg (by omega), if_neg z, ref_l3 s (by omega) m c hm (s.size - slashAt s) k3 (slashAt s) (by omega)]
        have e1 : ns s (s.size - slashAt s) (slashAt s) = restAt s := rfl
        rw [e1]
        exact ih _ _ (m - 1) (by rw [size_cut]; omega) (by rw [size_cut]; omega) (by omega) (by omega)
    · rw [if_neg c, if_neg c]
      by_cases z : s.size = 0
      · rw [if_pos ((toList_nil s).mpr z), if_pos z]; rfl
      · rw [if_neg (fun e => z ((toList_nil s).mp e)), if_neg z]; rfl
theorem ref_l0 (s : ByteArray) (hs : s.size ≤ 4000000000) (m : Int) (n : Nat) : ∀ (k : Nat), n ≤ s.size → s.size < k →
    selvageref03_Strip.l0 (k + n + 2) (s.extract 0 n) m = selvageref03_Strip.l1 (k + tr s n) (base (s.extract 0 (tr s n))) m := by
  induction n with
  | zero =>
    intro k hn hk
    have hz : (s.extract 0 0).size = 0 := by rw [ByteArray.size_extract]; omega
    simp only [selvageref03_Strip.l0, tr]
    rw [if_neg (by omega), refbase_at _ (by omega) (by omega), Option.bind_some]
    simp only [selvageref03_Strip.j1, Nat.add_zero]
  | succ n ih =>
    intro k hn hk
    have hz : (s.extract 0 (n + 1)).size = n + 1 := by rw [ByteArray.size_extract]; omega
    have hb : bt (s.extract 0 (n + 1)) ((n : Nat) : Int) = bt s (n : Int) := by
      have := bt_extract s 0 (n + 1) n (by omega)
      rw [Nat.zero_add] at this
      exact this
    have w1 : wrap64 (((n + 1 : Nat) : Int) - 1) = (n : Int) := by rw [w64' (by omega) (by omega)]; omega
    rw [show k + (n + 1) + 2 = (k + n + 2) + 1 by omega]
    simp only [selvageref03_Strip.l0, tr, hz, w1, hb]
    rw [if_pos (by omega), if_pos (by omega), if_pos (by omega)]
    by_cases c : bt s (n : Int) = 47
    · have e : (s.extract 0 (n + 1)).extract 0 n = s.extract 0 n := by
        rw [ext_ext s 0 (n + 1) 0 n (by omega), Nat.zero_add, Nat.zero_add]
      rw [if_pos c, if_pos c, if_pos (by omega), Int.toNat_natCast, e]
      exact ih k (by omega) hk
    · rw [if_neg c, if_neg c, refbase_at _ (by omega) (by omega), Option.bind_some]
      simp only [selvageref03_Strip.j1]
      congr 1
theorem refstrip_at (s : ByteArray) (n : Int) (hs : s.size ≤ 4000000000) (hn : n ≤ 9223372036854775807) {k : Nat} (hk : (s.size + 1) * (s.size + 10) + 3 * s.size + 10 ≤ k) : selvageref03_Strip.f k s n = some ((stripS s n).1, errNum (stripS s n).2) := by
  unfold selvageref03_Strip.f stripS
  by_cases h1 : n < -1
  · rw [if_pos h1, if_pos h1]; rfl
  · rw [if_neg h1, if_neg h1]
    by_cases h2 : n = -1
    · have ht := (tr_facts s s.size).1
      have hsz : (s.extract 0 (tr s s.size)).size ≤ s.size := by rw [ByteArray.size_extract]; omega
      have hb := base_size (s.extract 0 (tr s s.size))
      obtain ⟨k2, rfl⟩ : ∃ x, k = x + s.size + 2 := ⟨k - s.size - 2, by omega⟩
      have h0 := ref_l0 s hs n s.size k2 (Nat.le_refl _) (by omega)
      rw [ext_all] at h0
      rw [if_pos h2, if_pos h2, h0, ref_l1 s.size hs (s.size + 1) _ _ n (by omega) (by omega) hn (by omega), h2]
    · obtain ⟨k2, rfl⟩ : ∃ x, k = x + 1 := ⟨k - 1, by omega⟩
      rw [if_neg h2, if_neg h2]
      simp only [selvageref03_Strip.j1]
      rw [ref_l1 s.size hs (s.size + 1) _ _ n (by omega) (by omega) hn (by omega)]
theorem PathStrips : ∀ (a0 : ByteArray) (a1 : Int), (Lit.int IntKind.i64 a1).wf = true → (a0.size + 1) + 1 ≤ 1048576 → ∃ k, selvagelaw03_PathStrips.f k a0 a1 = some true := by
  intro a0 a1 hwf hn
  have hb : a1 ≤ 9223372036854775807 := by
    simp only [Lit.wf, Bool.and_eq_true, decide_eq_true_eq] at hwf
    exact Int.le_trans hwf.2 (by decide)
  refine ⟨(a0.size + 1) * (a0.size + 10) + 3 * a0.size + 100, ?_⟩
  unfold selvagelaw03_PathStrips.f
  rw [strip_at a0 a1 (by omega) hb (by omega), refstrip_at a0 a1 (by omega) hb (by omega), sure_at (by omega)]
  simp only [Option.bind_some, num_at]
  rw [if_pos trivial, if_pos trivial]
end Go.Proofs.YtflkehpgkiomdaaDoor.Pure
