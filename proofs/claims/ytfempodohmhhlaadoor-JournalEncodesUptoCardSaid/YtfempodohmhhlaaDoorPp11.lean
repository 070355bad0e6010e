-- Printed by this session's pp.py over the kit's printer, out of the translation. Lean checks it.
import Derived.Test.YtfempodohmhhlaaDoorPp0
import Derived.Test.YtfempodohmhhlaaDoorPp10
namespace Go.Proofs.YtfempodohmhhlaaDoor.Pp
open Go.RowKit Go.Proofs.YtfempodohmhhlaaDoor.Ext Go.Proofs.YtfempodohmhhlaaDoorW.PrintWords Go.Proofs.YtfempodohmhhlaaDoorW.PrintLast Go.Proofs.YtfempodohmhhlaaDoorW.PrintMore
attribute [local go_sem] max2_int min2_int max_two min_two max_three min_three max_four min_four   -- for this text's walks alone
set_option linter.unusedVariables false
set_option linter.unusedSimpArgs false
mutual
def selvageref02_read.j0 : Nat → ByteArray → Bool → Option (Int × Int)
  | 0, _, _ => none
  | k + 1, x0, x12 => if x12 = true then (some (0, 0)) else (selvageref02_read.l0 k x0 0)
def selvageref02_read.l0 : Nat → ByteArray → Int → Option (Int × Int)
  | 0, _, _ => none
  | k + 1, x0, x4 => if x4 < 9 then (if 0 ≤ x4 then (if 1 < (x0.size : Int) then (if (bt (⟨#[97, 98, 116, 110, 118, 102, 114, 34, 92]⟩ : ByteArray) x4) = (bt x0 1) then (some (bt (⟨#[7, 8, 9, 10, 11, 12, 13, 34, 92]⟩ : ByteArray) x4, 2)) else (selvageref02_read.l0 k x0 (wrap64 (x4 + 1)))) else (none)) else (none)) else (if (x0.size : Int) < 4 then (selvageref02_read.j2 k x0 true) else (if 1 < (x0.size : Int) then ((selvageref02_octal.f (bt x0 1)).bind fun t254 => (if t254 < 0 then (selvageref02_read.j2 k x0 true) else (if t254 > 3 then (selvageref02_read.j2 k x0 true) else (if 2 < (x0.size : Int) then ((selvageref02_octal.f (bt x0 2)).bind fun t255 => (if t255 < 0 then (selvageref02_read.j2 k x0 true) else (if 3 < (x0.size : Int) then ((selvageref02_octal.f (bt x0 3)).bind fun t256 => (selvageref02_read.j2 k x0 (decide (t256 < 0)))) else (none)))) else (none))))) else (none)))
def selvageref02_read.j2 : Nat → ByteArray → Bool → Option (Int × Int)
  | 0, _, _ => none
  | k + 1, x0, x50 => if x50 = true then (some (0, 0)) else (if 1 < (x0.size : Int) then ((selvageref02_octal.f (bt x0 1)).bind fun t257 => (if 2 < (x0.size : Int) then ((selvageref02_octal.f (bt x0 2)).bind fun t258 => (if 3 < (x0.size : Int) then ((selvageref02_octal.f (bt x0 3)).bind fun t259 => (some ((wrap64 ((wrap64 ((wrap64 (t257 * 64)) + (wrap64 (t258 * 8)))) + t259)) % 256, 4))) else (none))) else (none))) else (none))
end
def selvageref02_read.f (k : Nat) (a0 : ByteArray) : Option (Int × Int) := if (a0.size : Int) < 2 then (selvageref02_read.j0 k a0 true) else (if 0 < (a0.size : Int) then (selvageref02_read.j0 k a0 ((bt a0 0) != 92)) else (none))
theorem selvageref02_read.mono_l : ∀ k, (∀ y0 y1, LeO (selvageref02_read.j0 k y0 y1) (selvageref02_read.j0 (k + 1) y0 y1)) ∧ (∀ y0 y1, LeO (selvageref02_read.l0 k y0 y1) (selvageref02_read.l0 (k + 1) y0 y1)) ∧ (∀ y0 y1, LeO (selvageref02_read.j2 k y0 y1) (selvageref02_read.j2 (k + 1) y0 y1))
  | 0 => ⟨fun _ _ r h => by simp [selvageref02_read.j0] at h, fun _ _ r h => by simp [selvageref02_read.l0] at h, fun _ _ r h => by simp [selvageref02_read.j2] at h⟩
  | k + 1 => by
    obtain ⟨ih0, ih1, ih2⟩ := selvageref02_read.mono_l k
    refine ⟨?_, ?_, ?_⟩
    · intro y0 y1
      unfold selvageref02_read.j0
      repeat' first
      | (with_reducible exact ih0 _ _)
      | (with_reducible exact ih1 _ _)
      | (with_reducible exact ih2 _ _)
      | (with_reducible exact LeO.refl _)
      | (with_reducible exact LeO.none _)
      | (with_reducible refine LeO.ite ?_ ?_)
      | (with_reducible refine LeO.bind ?_ (fun _ => ?_))
      | exact ih0 _ _
      | exact ih1 _ _
      | exact ih2 _ _
      | exact LeO.none _
      | refine LeO.ite ?_ ?_
      | refine LeO.bind ?_ (fun _ => ?_)
    · intro y0 y1
      unfold selvageref02_read.l0
      repeat' first
      | (with_reducible exact ih0 _ _)
      | (with_reducible exact ih1 _ _)
      | (with_reducible exact ih2 _ _)
      | (with_reducible exact LeO.refl _)
      | (with_reducible exact LeO.none _)
      | (with_reducible refine LeO.ite ?_ ?_)
      | (with_reducible refine LeO.bind ?_ (fun _ => ?_))
      | exact ih0 _ _
      | exact ih1 _ _
      | exact ih2 _ _
      | exact LeO.none _
      | refine LeO.ite ?_ ?_
      | refine LeO.bind ?_ (fun _ => ?_)
    · intro y0 y1
      unfold selvageref02_read.j2
      repeat' first
      | (with_reducible exact ih0 _ _)
      | (with_reducible exact ih1 _ _)
      | (with_reducible exact ih2 _ _)
      | (with_reducible exact LeO.refl _)
      | (with_reducible exact LeO.none _)
      | (with_reducible refine LeO.ite ?_ ?_)
      | (with_reducible refine LeO.bind ?_ (fun _ => ?_))
      | exact ih0 _ _
      | exact ih1 _ _
      | exact ih2 _ _
      | exact LeO.none _
      | refine LeO.ite ?_ ?_
      | refine LeO.bind ?_ (fun _ => ?_)
theorem selvageref02_read.mono : ∀ a0 k, LeO (selvageref02_read.f k a0) (selvageref02_read.f (k + 1) a0) := by
  intro a0 k
  obtain ⟨ih0, ih1, ih2⟩ := selvageref02_read.mono_l k
  unfold selvageref02_read.f
  repeat' first
      | (with_reducible exact ih0 _ _)
      | (with_reducible exact ih1 _ _)
      | (with_reducible exact ih2 _ _)
      | (with_reducible exact LeO.refl _)
      | (with_reducible exact LeO.none _)
      | (with_reducible refine LeO.ite ?_ ?_)
      | (with_reducible refine LeO.bind ?_ (fun _ => ?_))
      | exact ih0 _ _
      | exact ih1 _ _
      | exact ih2 _ _
      | exact LeO.none _
      | refine LeO.ite ?_ ?_
      | refine LeO.bind ?_ (fun _ => ?_)
end Go.Proofs.YtfempodohmhhlaaDoor.Pp
