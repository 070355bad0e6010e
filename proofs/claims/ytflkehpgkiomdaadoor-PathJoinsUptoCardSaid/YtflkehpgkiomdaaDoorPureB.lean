/-
  path, in plain Lean: the last slash, Dir, Base, same; the law PathNames.
-/
import Derived.Test.YtflkehpgkiomdaaDoorPureA
import Derived.Test.YtflkehpgkiomdaaDoorPp4
namespace Go.Proofs.YtflkehpgkiomdaaDoor.Pure
open Go.RowKit Go.Proofs.YtflkehpgkiomdaaDoor.Pp Go.Proofs.YtflkehpgkiomdaaDoor.Ext Go.Proofs.YtflkehpgkiomdaaDoorW.PrintWords Go.Proofs.YtflkehpgkiomdaaDoorW.PrintLast

/-- the last slash among the first n bytes -/
def lst (s : ByteArray) : Nat → Int
  | 0 => -1
  | n + 1 => if bt s (n : Int) = 47 then (n : Int) else lst s n
theorem lst_range (s : ByteArray) (n : Nat) : -1 ≤ lst s n ∧ lst s n < n := by
  induction n with
  | zero => simp [lst]
  | succ n ih =>
    simp only [lst]
    split <;> omega
theorem lastIndex_loop (s : ByteArray) (hn : s.size ≤ 4000000000) (n : Nat) : ∀ k, n ≤ s.size → n < k → bytealg_LastIndexByteString.l0 k s 47 ((n : Int) - 1) = some (lst s n) := by
  induction n with
  | zero =>
    intro k hs hk
    obtain ⟨k, rfl⟩ : ∃ m, k = m + 1 := ⟨k - 1, by omega⟩
    simp only [bytealg_LastIndexByteString.l0, lst]
    rw [if_neg (by omega)]
  | succ n ih =>
    intro k hs hk
    obtain ⟨k, rfl⟩ : ∃ m, k = m + 1 := ⟨k - 1, by omega⟩
    have e : ((n + 1 : Nat) : Int) - 1 = (n : Int) := by omega
    rw [e]
    simp only [bytealg_LastIndexByteString.l0, lst]
    rw [if_pos (by omega), if_pos (by omega), if_pos (by omega), w_sub n (by omega)]
    by_cases h : bt s (n : Int) = 47
    · rw [if_pos h, if_pos h]
    · rw [if_neg h, if_neg h, ih k (by omega) (by omega)]
theorem lastIndex_at (s : ByteArray) (hn : s.size ≤ 4000000000) {k : Nat} (hk : s.size < k) : strings_LastIndexByte.f k s 47 = some (lst s s.size) := by
  unfold strings_LastIndexByte.f bytealg_LastIndexByteString.f
  rw [w_sub s.size (by omega), lastIndex_loop s hn s.size k (Nat.le_refl _) hk]; rfl
theorem reflast_loop (s : ByteArray) (hn : s.size ≤ 4000000000) (n : Nat) : ∀ k, n ≤ s.size → n < k → selvageref03_last.l0 k s ((n : Int) - 1) = some (lst s n) := by
  induction n with
  | zero =>
    intro k hs hk
    obtain ⟨k, rfl⟩ : ∃ m, k = m + 1 := ⟨k - 1, by omega⟩
    simp only [selvageref03_last.l0, lst]
    rw [if_neg (by omega)]
  | succ n ih =>
    intro k hs hk
    obtain ⟨k, rfl⟩ : ∃ m, k = m + 1 := ⟨k - 1, by omega⟩
    have e : ((n + 1 : Nat) : Int) - 1 = (n : Int) := by omega
    rw [e]
    simp only [selvageref03_last.l0, lst]
    rw [if_pos (by omega), if_pos (by omega), if_pos (by omega), w_sub n (by omega)]
    by_cases h : bt s (n : Int) = 47
    · rw [if_pos h, if_pos h]
    · rw [if_neg h, if_neg h, ih k (by omega) (by omega)]
theorem reflast_at (s : ByteArray) (hn : s.size ≤ 4000000000) {k : Nat} (hk : s.size < k) : selvageref03_last.f k s = some (lst s s.size) := by
  unfold selvageref03_last.f
  rw [w_sub s.size (by omega), reflast_loop s hn s.size k (Nat.le_refl _) hk]
def dir (s : ByteArray) : ByteArray := s.extract 0 (lst s s.size).toNat
def base (s : ByteArray) : ByteArray := s.extract (lst s s.size + 1).toNat s.size
theorem dir_at (s : ByteArray) (hn : s.size ≤ 4000000000) {k : Nat} (hk : s.size < k) : path_Dir.f k s = some (dir s) := by
  unfold path_Dir.f dir
  rw [lastIndex_at s hn hk, Option.bind_some]
  have r := lst_range s s.size
  have hmx : mx (lst s s.size) 0 = if lst s s.size < 0 then 0 else lst s s.size := by
    unfold mx
    split <;> rfl
  rw [hmx]
  by_cases h : lst s s.size < 0
  · rw [if_pos h, if_pos (by omega), if_pos (by omega)]
    have : (lst s s.size).toNat = 0 := by omega
    rw [this]; rfl
  · rw [if_neg h, if_pos (by omega), if_pos (by omega)]
theorem refdir_at (s : ByteArray) (hn : s.size ≤ 4000000000) {k : Nat} (hk : s.size < k) : selvageref03_Dir.f k s = some (dir s) := by
  unfold selvageref03_Dir.f dir
  rw [reflast_at s hn hk, Option.bind_some]
  have r := lst_range s s.size
  by_cases h : lst s s.size < 0
  · rw [if_pos h]
    have : (lst s s.size).toNat = 0 := by omega
    rw [this]
    congr 1
    apply ba_ext
    rw [Lib.extract_data]
    simp
  · rw [if_neg h, if_pos (by omega), if_pos (by omega)]
theorem base_at (s : ByteArray) (hn : s.size ≤ 4000000000) {k : Nat} (hk : s.size < k) : path_Base.f k s = some (base s) := by
  unfold path_Base.f base
  rw [lastIndex_at s hn hk, Option.bind_some]
  have r := lst_range s s.size
  rw [w64' (by omega) (by omega), if_pos (by omega), if_pos (by omega)]
theorem refbase_at (s : ByteArray) (hn : s.size ≤ 4000000000) {k : Nat} (hk : s.size < k) : selvageref03_Base.f k s = some (base s) := by
  unfold selvageref03_Base.f base
  rw [reflast_at s hn hk, Option.bind_some]
  have r := lst_range s s.size
  rw [w64' (by omega) (by omega), if_pos (by omega), if_pos (by omega)]
theorem same_loop (l : List ByteArray) (hn : l.length ≤ 4000000000) (d : Nat) : ∀ (k i : Nat), i + d = l.length → d < k → selvagelaw03_same.l0 k l l (i : Int) = some true := by
  induction d with
  | zero =>
    intro k i hd hk
    obtain ⟨k, rfl⟩ : ∃ m, k = m + 1 := ⟨k - 1, by omega⟩
    simp only [selvagelaw03_same.l0]
    rw [if_neg (by omega)]
  | succ d ih =>
    intro k i hd hk
    obtain ⟨k, rfl⟩ : ∃ m, k = m + 1 := ⟨k - 1, by omega⟩
    have w1 : wrap64 ((i : Int) + 1) = ((i + 1 : Nat) : Int) := w_add i 1 (by omega)
    simp only [selvagelaw03_same.l0, w1]
    rw [if_pos (by omega), if_pos (by omega), if_pos (by omega), if_pos trivial]
    exact ih k (i + 1) (by omega) (by omega)
theorem same_at (l : List ByteArray) (hn : l.length ≤ 4000000000) {k : Nat} (hk : l.length < k) : selvagelaw03_same.f k l l = some true := by
  unfold selvagelaw03_same.f
  rw [if_pos rfl]
  exact same_loop l hn l.length k 0 (by omega) hk
theorem num_at (o : Option Int) : selvagelaw03_num.f o = some (errNum o) := by
  unfold selvagelaw03_num.f
  rw [errNum_eq]

theorem sure_true : selvagelaw03_sure.f 60 = some true := by decide +kernel
theorem sure_at {k : Nat} (hk : 60 ≤ k) : selvagelaw03_sure.f k = some true := at_rounds selvagelaw03_sure.mono hk sure_true
theorem PathNames : ∀ (a0 : ByteArray), (a0.size + 1) ≤ 1048576 → ∃ k, selvagelaw03_PathNames.f k a0 = some true := by
  intro a0 hn
  refine ⟨2 * a0.size + 100, ?_⟩
  have hl := parts_length a0
  unfold selvagelaw03_PathNames.f
  rw [parts_at a0 (by omega), refparts_at a0 (by omega), name_at, refname_at a0 (by omega) (by omega), dir_at a0 (by omega) (by omega), refdir_at a0 (by omega) (by omega), base_at a0 (by omega) (by omega), refbase_at a0 (by omega) (by omega), sure_at (by omega)]
  simp only [Option.bind_some, num_at]
  have e : errNum (if okName a0 = true then none else some 30) = if okName a0 = true then 0 else 30 := by split <;> rfl
  rw [e, if_pos trivial, same_at _ (by omega) (by omega), Option.bind_some, if_pos rfl, if_pos trivial]
  simp
end Go.Proofs.YtflkehpgkiomdaaDoor.Pure
