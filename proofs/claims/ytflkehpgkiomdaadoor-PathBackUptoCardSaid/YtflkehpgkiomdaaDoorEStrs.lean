/-
  strings.Split at a separator that is not empty, strings.TrimLeft and TrimRight at one ASCII byte, as the printed words want them: out of the library's contracts, laid at this translation.
-/
import Derived.Test.YtflkehpgkiomdaaDoorEBase
import Derived.Test.YtflkehpgkiomdaaDoorEShelf
import Derived.Test.YtflkehpgkiomdaaDoorWLast
import Derived.Lib.SplitLaws
import Derived.Lib.IndexMore
import Derived.Lib.CutLaws
import Derived.Laws.BytesArg
namespace Go.Proofs.YtflkehpgkiomdaaDoor.Ext
open Go.RowKit Go.Proofs.YtflkehpgkiomdaaDoorW.PrintWords Go.Proofs.YtflkehpgkiomdaaDoorW.PrintLast
theorem row_new (xs : List ByteArray) (w : World) (hn : xs.length ≤ maxLen) : Kd.R Kd.string 9 (w.alloc (.cells (xs.map Value.string).toArray 9)) w.heap.size (fun _ => True) (.slice (some ⟨w.heap.size, 0, none⟩) xs.length xs.length) xs :=
  Kd.R_of_own ⟨by simp [encs], .inr ⟨w.heap.size, xs.length, (xs.map Value.string).toArray, rfl, Nat.le_refl _, heap_alloc_new w _, Nat.le_refl _, hn, by simp, by rw [Nat.mul_one]; exact List.take_of_length_le (by simp)⟩⟩ (fun _ _ => trivial)
def strings_Split.f (a0 a1 : ByteArray) : Option (List ByteArray) :=
  if a0.size < 4294967281 ∧ 1 ≤ a1.size then some (Lib.splitB a1 0 (Lib.countB a0 a1) a0) else none
theorem strings_Split.calls (a0 a1 : ByteArray) (r : List ByteArray) (w : World) (hGL : Glob w) (h : strings_Split.f a0 a1 = some r) :
    Calls Tryd.prog 38 #[.string a0, .string a1] w fun e w' => ∃ v0_ : Value, e = .returned (v0_) ∧ Kd.R Kd.string 9 w' w.heap.size (fun _ => True) v0_ r ∧ Below w.heap.size w w' := by
  unfold strings_Split.f at h
  by_cases c : a0.size < 4294967281 ∧ 1 ≤ a1.size
  · rw [if_pos c] at h
    obtain rfl := Option.some.inj h
    obtain ⟨m, hm⟩ := hGL.2
    have hl := Lib.splitB_all a1 c.2 0 (Lib.countB a0 a1) a0 rfl
    have hc := Lib.countB_le a1 c.2 a0.size a0 (Nat.le_refl _)
    refine (Tryd.strings_Split a0 a1 m w c.1 hm c.2).mono ?_
    rintro e w' ⟨rfl, rfl⟩
    refine ⟨_, rfl, ?_, below_alloc (Below.refl _ _) _⟩
    have := row_new (Lib.splitB a1 0 (Lib.countB a0 a1) a0) w (by unfold maxLen; omega)
    rw [hl] at this
    exact this
  · rw [if_neg c] at h; cases h
def oneAscii (s : ByteArray) : Option UInt8 :=
  match s.data.toList with
  | [c] => if c.toNat < 128 then some c else none
  | _ => none
theorem oneAscii_eq {s : ByteArray} {c : UInt8} (h : oneAscii s = some c) : s = ⟨#[c]⟩ ∧ c.toNat < 128 := by
  unfold oneAscii at h
  split at h
  · rename_i x hx
    split at h
    · rename_i hc
      obtain rfl := Option.some.inj h
      refine ⟨?_, hc⟩
      cases s
      simp only at hx
      congr 1
      exact Array.ext' hx
    · cases h
  · cases h
def strings_TrimLeft.f (a0 a1 : ByteArray) : Option ByteArray := (oneAscii a1).map fun c => ⟨(Lib.trimLeftB a0.data.toList c).toArray⟩
theorem strings_TrimLeft.calls (a0 a1 r : ByteArray) (w : World) (h : strings_TrimLeft.f a0 a1 = some r) :
    Calls Tryd.prog 46 #[.string a0, .string a1] w fun e w' => e = .returned (.string r) ∧ Drawn0 w w' := by
  obtain ⟨c, hc, rfl⟩ := Option.map_eq_some_iff.mp h
  obtain ⟨rfl, hc2⟩ := oneAscii_eq hc
  refine (Tryd.strings_TrimLeft_one a0 c hc2 w).mono ?_
  rintro e w' ⟨rfl, rfl⟩
  exact ⟨rfl, Drawn0.refl _⟩
def strings_TrimRight.f (a0 a1 : ByteArray) : Option ByteArray := if a0.size ≤ 9223372036854775807 then (oneAscii a1).map fun c => ⟨(Lib.trimRightB a0.data.toList c).toArray⟩ else none
theorem strings_TrimRight.calls (a0 a1 r : ByteArray) (w : World) (h : strings_TrimRight.f a0 a1 = some r) :
    Calls Tryd.prog 44 #[.string a0, .string a1] w fun e w' => e = .returned (.string r) ∧ Drawn0 w w' := by
  unfold strings_TrimRight.f at h
  by_cases hs : a0.size ≤ 9223372036854775807
  · rw [if_pos hs] at h
    obtain ⟨c, hc, rfl⟩ := Option.map_eq_some_iff.mp h
    obtain ⟨rfl, hc2⟩ := oneAscii_eq hc
    refine (Tryd.strings_TrimRight_one a0 c hc2 w hs).mono ?_
    rintro e w' ⟨rfl, rfl⟩
    exact ⟨rfl, Drawn0.refl _⟩
  · rw [if_neg hs] at h; cases h
def strings_IndexByte.f (a0 : ByteArray) (a1 : Int) : Option Int := some (Lib.indexByte a0.data.toList (UInt8.ofNat a1.toNat))
theorem strings_IndexByte.calls (a0 : ByteArray) (a1 : Int) (r : Int) (w : World) (h : strings_IndexByte.f a0 a1 = some r) :
    Calls Tryd.prog 45 #[.string a0, .int .u8 a1] w fun e w' => e = .returned (.int .i64 r) ∧ Drawn0 w w' := by
  obtain rfl := Option.some.inj h
  refine (Tryd.strings_IndexByte a0 a1 w).mono ?_
  rintro e w' ⟨rfl, rfl⟩
  exact ⟨rfl, Drawn0.refl _⟩
end Go.Proofs.YtflkehpgkiomdaaDoor.Ext
