/-
  strings.Contains at a text of one byte, as the printed words want it: out of the library's contract, laid at this translation.
-/
import Derived.Test.YtecjoofjiockkaaDoorEBase
import Derived.Test.YtecjoofjiockkaaDoorEShelf
import Derived.Test.YtecjoofjiockkaaDoorWLast
namespace Go.Proofs.YtecjoofjiockkaaDoor.Ext
open Go.RowKit Go.Proofs.YtecjoofjiockkaaDoorW.PrintWords Go.Proofs.YtecjoofjiockkaaDoorW.PrintLast
def oneByte (s : ByteArray) : Option UInt8 :=
  match s.data.toList with
  | [c] => some c
  | _ => none
theorem oneByte_eq {s : ByteArray} {c : UInt8} (h : oneByte s = some c) : s = ⟨#[c]⟩ := by
  unfold oneByte at h
  split at h
  · rename_i x hx
    obtain rfl := Option.some.inj h
    cases s
    simp only at hx
    congr 1
    exact Array.ext' hx
  · cases h
def strings_Contains.f (a0 a1 : ByteArray) : Option Bool := (oneByte a1).map fun c => decide (0 ≤ Lib.indexByte a0.data.toList c)
theorem strings_Contains.calls (a0 a1 : ByteArray) (r : Bool) (w : World) (h : strings_Contains.f a0 a1 = some r) :
    Calls Tryd.prog 42 #[.string a0, .string a1] w fun e w' => e = .returned (.bool r) ∧ Drawn0 w w' := by
  obtain ⟨c, hc, rfl⟩ := Option.map_eq_some_iff.mp h
  obtain rfl := oneByte_eq hc
  refine (Tryd.strings_Contains_one a0 c w).mono ?_
  rintro e w' ⟨rfl, rfl⟩
  exact ⟨rfl, Drawn0.refl _⟩
end Go.Proofs.YtecjoofjiockkaaDoor.Ext
namespace Go.Proofs.YtecjoofjiockkaaDoor.Ext
open Go.RowKit Go.Proofs.YtecjoofjiockkaaDoorW.PrintWords Go.Proofs.YtecjoofjiockkaaDoorW.PrintLast
def strings_IndexByte.f (a0 : ByteArray) (a1 : Int) : Option Int := some (Lib.indexByte a0.data.toList (UInt8.ofNat a1.toNat))
theorem strings_IndexByte.calls (a0 : ByteArray) (a1 : Int) (r : Int) (w : World) (h : strings_IndexByte.f a0 a1 = some r) :
    Calls Tryd.prog 36 #[.string a0, .int .u8 a1] w fun e w' => e = .returned (.int .i64 r) ∧ Drawn0 w w' := by
  obtain rfl := Option.some.inj h
  refine (Tryd.strings_IndexByte a0 a1 w).mono ?_
  rintro e w' ⟨rfl, rfl⟩
  exact ⟨rfl, Drawn0.refl _⟩
end Go.Proofs.YtecjoofjiockkaaDoor.Ext
namespace Go.Proofs.YtecjoofjiockkaaDoor.Ext
open Go.RowKit Go.Proofs.YtecjoofjiockkaaDoorW.PrintWords Go.Proofs.YtecjoofjiockkaaDoorW.PrintLast
def strings_ReplaceAll.f (a0 a1 a2 : ByteArray) : Option ByteArray :=
  if a0.size < 4294967281 ∧ 1 ≤ a1.size ∧ a0.size + Lib.countB a0 a1 * a2.size ≤ 140737488355328 then some ⟨(Lib.replaceAll a0.data.toList a1.data.toList a2.data.toList).toArray⟩ else none
theorem strings_ReplaceAll.calls (a0 a1 a2 r : ByteArray) (w : World) (hGL : Glob w) (h : strings_ReplaceAll.f a0 a1 a2 = some r) :
    Calls Tryd.prog 45 #[.string a0, .string a1, .string a2] w fun e w' => e = .returned (.string r) ∧ Below w.heap.size w w' := by
  unfold strings_ReplaceAll.f at h
  split at h
  · rename_i c
    obtain rfl := Option.some.inj h
    obtain ⟨m, hm⟩ := hGL.2
    exact Tryd.strings_ReplaceAll a0 a1 a2 m w c.1 hm c.2.1 c.2.2
  · cases h
def oneAscii (s : ByteArray) : Option UInt8 :=
  match s.data.toList with
  | [c] => if c.toNat < 128 then some c else none
  | _ => none
theorem oneAscii_eq {s : ByteArray} {c : UInt8} (h : oneAscii s = some c) : s = ⟨#[c]⟩ ∧ c.toNat < 128 := by
  unfold oneAscii at h
  split at h
  · rename_i x hx
    split at h
    · rename_i hc
      obtain rfl := Option.some.inj h
      refine ⟨?_, hc⟩
      cases s
      simp only at hx
      congr 1
      exact Array.ext' hx
    · cases h
  · cases h
def strings_TrimRight.f (a0 a1 : ByteArray) : Option ByteArray := if a0.size ≤ 9223372036854775807 then (oneAscii a1).map fun c => ⟨(Lib.trimRightB a0.data.toList c).toArray⟩ else none
theorem strings_TrimRight.calls (a0 a1 r : ByteArray) (w : World) (h : strings_TrimRight.f a0 a1 = some r) :
    Calls Tryd.prog 47 #[.string a0, .string a1] w fun e w' => e = .returned (.string r) ∧ Drawn0 w w' := by
  unfold strings_TrimRight.f at h
  by_cases hs : a0.size ≤ 9223372036854775807
  · rw [if_pos hs] at h
    obtain ⟨c, hc, rfl⟩ := Option.map_eq_some_iff.mp h
    obtain ⟨rfl, hc2⟩ := oneAscii_eq hc
    refine (Tryd.strings_TrimRight_one a0 c hc2 w hs).mono ?_
    rintro e w' ⟨rfl, rfl⟩
    exact ⟨rfl, Drawn0.refl _⟩
  · rw [if_neg hs] at h; cases h
end Go.Proofs.YtecjoofjiockkaaDoor.Ext
