/-
  strings.Split at a separator that is not empty, strings.TrimLeft and TrimRight at one ASCII byte, as the printed words want them: out of the library's contracts, laid at this translation.
-/
import Derived.Test.YtfempodohmhhlaaDoorEBase
import Derived.Test.YtfempodohmhhlaaDoorEShelf
import Derived.Test.YtfempodohmhhlaaDoorWLast
import Derived.Lib.SplitLaws
import Derived.Lib.IndexMore
import Derived.Lib.CutLaws
import Derived.Laws.BytesArg
namespace Go.Proofs.YtfempodohmhhlaaDoor.Ext
open Go.RowKit Go.Proofs.YtfempodohmhhlaaDoorW.PrintWords Go.Proofs.YtfempodohmhhlaaDoorW.PrintLast
theorem row_new (xs : List ByteArray) (w : World) (hn : xs.length ≤ maxLen) : Kd.R Kd.string 9 (w.alloc (.cells (xs.map Value.string).toArray 9)) w.heap.size (fun _ => True) (.slice (some ⟨w.heap.size, 0, none⟩) xs.length xs.length) xs :=
  Kd.R_of_own ⟨by simp [encs], .inr ⟨w.heap.size, xs.length, (xs.map Value.string).toArray, rfl, Nat.le_refl _, heap_alloc_new w _, Nat.le_refl _, hn, by simp, by rw [Nat.mul_one]; exact List.take_of_length_le (by simp)⟩⟩ (fun _ _ => trivial)
def strings_Split.f (a0 a1 : ByteArray) : Option (List ByteArray) :=
  if a0.size < 4294967281 ∧ 1 ≤ a1.size then some (Lib.splitB a1 0 (Lib.countB a0 a1) a0) else none
theorem strings_Split.calls (a0 a1 : ByteArray) (r : List ByteArray) (w : World) (hGL : Glob w) (h : strings_Split.f a0 a1 = some r) :
    Calls Tryd.prog 54 #[.string a0, .string a1] w fun e w' => ∃ v0_ : Value, e = .returned (v0_) ∧ Kd.R Kd.string 9 w' w.heap.size (fun _ => True) v0_ r ∧ Below w.heap.size w w' := by
  unfold strings_Split.f at h
  by_cases c : a0.size < 4294967281 ∧ 1 ≤ a1.size
  · rw [if_pos c] at h
    obtain rfl := Option.some.inj h
    obtain ⟨m, hm⟩ := hGL.2
    have hl := Lib.splitB_all a1 c.2 0 (Lib.countB a0 a1) a0 rfl
    have hc := Lib.countB_le a1 c.2 a0.size a0 (Nat.le_refl _)
    refine (Tryd.strings_Split a0 a1 m w c.1 hm c.2).mono ?_
    rintro e w' ⟨rfl, rfl⟩
    refine ⟨_, rfl, ?_, below_alloc (Below.refl _ _) _⟩
    have := row_new (Lib.splitB a1 0 (Lib.countB a0 a1) a0) w (by unfold maxLen; omega)
    rw [hl] at this
    exact this
  · rw [if_neg c] at h; cases h
def strings_IndexByte.f (a0 : ByteArray) (a1 : Int) : Option Int := some (Lib.indexByte a0.data.toList (UInt8.ofNat a1.toNat))
theorem strings_IndexByte.calls (a0 : ByteArray) (a1 : Int) (r : Int) (w : World) (h : strings_IndexByte.f a0 a1 = some r) :
    Calls Tryd.prog 82 #[.string a0, .int .u8 a1] w fun e w' => e = .returned (.int .i64 r) ∧ Drawn0 w w' := by
  obtain rfl := Option.some.inj h
  refine (Tryd.strings_IndexByte a0 a1 w).mono ?_
  rintro e w' ⟨rfl, rfl⟩
  exact ⟨rfl, Drawn0.refl _⟩
def strings_Cut.f (a0 a1 : ByteArray) : Option (ByteArray × ByteArray × Bool) :=
  if a0.size < 4294967281 then (if 0 ≤ Lib.indexB a0 a1 then some (a0.extract 0 (Lib.indexB a0 a1).toNat, a0.extract ((Lib.indexB a0 a1).toNat + a1.size) a0.size, true) else some (a0, ⟨#[]⟩, false)) else none
theorem strings_Cut.calls (a0 a1 r0 r1 : ByteArray) (r2 : Bool) (w : World) (hGL : Glob w) (h : strings_Cut.f a0 a1 = some (r0, r1, r2)) :
    Calls Tryd.prog 26 #[.string a0, .string a1] w fun e w' => e = .returned (.tuple #[.string r0, .string r1, .bool r2]) ∧ Drawn0 w w' := by
  unfold strings_Cut.f at h
  by_cases c : a0.size < 4294967281
  · rw [if_pos c] at h
    obtain ⟨m, hm⟩ := hGL.2
    refine (Tryd.strings_Cut a0 a1 m w c hm).mono ?_
    rintro e w' ⟨rfl, n, rfl⟩
    refine ⟨?_, ⟨n, rfl⟩⟩
    have hx : ∀ l : List UInt8, l = a0.data.toList → (⟨l.toArray⟩ : ByteArray) = a0 := fun l hl => by subst hl; cases a0; simp
    have hy : ∀ x y : ByteArray, x.data.toList = y.data.toList → x = y := fun x y hl => by cases x; cases y; simp only at hl; congr 1; exact Array.ext' hl
    have hi : Lib.index a0.data.toList a1.data.toList = Lib.indexB a0 a1 := rfl
    unfold Lib.cut
    rw [hi]
    by_cases d : 0 ≤ Lib.indexB a0 a1
    · rw [if_pos d] at h
      simp only [Option.some.injEq, Prod.mk.injEq] at h
      obtain ⟨rfl, rfl, rfl⟩ := h
      rw [if_pos d]
      have e1 : (⟨(a0.data.toList.take (Lib.indexB a0 a1).toNat).toArray⟩ : ByteArray) = a0.extract 0 (Lib.indexB a0 a1).toNat := hy _ _ (by rw [Lib.extract_data]; simp)
      have e2 : (⟨(a0.data.toList.drop ((Lib.indexB a0 a1).toNat + a1.data.toList.length)).toArray⟩ : ByteArray) = a0.extract ((Lib.indexB a0 a1).toNat + a1.size) a0.size := hy _ _ (by rw [Lib.extract_data, data_length, List.take_of_length_le]; rw [List.length_drop, data_length]; exact Nat.le_refl _)
      simp only [e1, e2]
    · rw [if_neg d] at h
      simp only [Option.some.injEq, Prod.mk.injEq] at h
      obtain ⟨rfl, rfl, rfl⟩ := h
      rw [if_neg d, hx _ rfl]
  · rw [if_neg c] at h; cases h
end Go.Proofs.YtfempodohmhhlaaDoor.Ext
