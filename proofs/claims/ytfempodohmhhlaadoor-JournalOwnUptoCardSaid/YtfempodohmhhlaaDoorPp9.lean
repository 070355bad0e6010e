-- Printed by this session's pp.py over the kit's printer, out of the translation. Lean checks it.
import Derived.Test.YtfempodohmhhlaaDoorESq
import Derived.Test.YtfempodohmhhlaaDoorPp0
import Derived.Test.YtfempodohmhhlaaDoorPp1
import Derived.Test.YtfempodohmhhlaaDoorPp2
import Derived.Test.YtfempodohmhhlaaDoorPp8
import Derived.Test.YtfempodohmhhlaaDoorEEncode
namespace Go.Proofs.YtfempodohmhhlaaDoor.Pp
open Go.RowKit Go.Proofs.YtfempodohmhhlaaDoor.Ext Go.Proofs.YtfempodohmhhlaaDoorW.PrintWords Go.Proofs.YtfempodohmhhlaaDoorW.PrintLast Go.Proofs.YtfempodohmhhlaaDoorW.PrintMore
attribute [local go_sem] max2_int min2_int max_two min_two max_three min_three max_four min_four   -- for this text's walks alone
set_option linter.unusedVariables false
set_option linter.unusedSimpArgs false
attribute [local go_sem high] eqA32
def selvagelaw27_same.l0 : Nat → List (S32) → List (S32) → Int → Option (Bool)
 | 0, _, _, _ => none
 | k + 1, x0, x1, x5 => if x5 < (x0.length : Int) then (if 0 ≤ x5 then (if x5 < (x1.length : Int) then (if (!(((rd_T32 x0 x5).f0) == ((rd_T32 x1 x5).f0)) || (!((((rd_T32 x0 x5).f1).toList) == (((rd_T32 x1 x5).f1).toList)) || (!((((rd_T32 x0 x5).f2).toList) == (((rd_T32 x1 x5).f2).toList))))) = true then (some false) else (selvagelaw27_same.l0 k x0 x1 (wrap64 (x5 + 1)))) else (none)) else (none)) else (some true)
def selvagelaw27_same.f (k : Nat) (l0 : List (S32)) (l1 : List (S32)) : Option (Bool) := if (l0.length : Int) = (l1.length : Int) then (selvagelaw27_same.l0 k l0 l1 0) else (some false)
theorem selvagelaw27_same.mono_l : ∀ k, (∀ y0 y1 y2, LeO (selvagelaw27_same.l0 k y0 y1 y2) (selvagelaw27_same.l0 (k + 1) y0 y1 y2))
 | 0 => fun _ _ _ r h => by simp [selvagelaw27_same.l0] at h
 | k + 1 => by
  have ih0 := selvagelaw27_same.mono_l k
  ·intro y0 y1 y2
   unfold selvagelaw27_same.l0
   repeat' first
   | (with_reducible exact ih0 _ _ _)
   | (with_reducible exact LeO.refl _)
   | (with_reducible exact LeO.none _)
   | (with_reducible refine LeO.ite ?_ ?_)
   | (with_reducible refine LeO.bind ?_ (fun _ => ?_))
   | exact ih0 _ _ _
   | exact LeO.none _
   | refine LeO.ite ?_ ?_
   | refine LeO.bind ?_ (fun _ => ?_)
theorem selvagelaw27_same.mono : ∀ a0 a1 k, LeO (selvagelaw27_same.f k a0 a1) (selvagelaw27_same.f (k + 1) a0 a1) := by
 intro a0 a1 k
 have ih0 := selvagelaw27_same.mono_l k
 unfold selvagelaw27_same.f
 repeat' first
   | (with_reducible exact ih0 _ _ _)
   | (with_reducible exact LeO.refl _)
   | (with_reducible exact LeO.none _)
   | (with_reducible refine LeO.ite ?_ ?_)
   | (with_reducible refine LeO.bind ?_ (fun _ => ?_))
   | exact ih0 _ _ _
   | exact LeO.none _
   | refine LeO.ite ?_ ?_
   | refine LeO.bind ?_ (fun _ => ?_)
set_option maxHeartbeats 8000000 in
set_option maxRecDepth 100000 in
theorem selvagelaw27_same.calls (k : Nat) (A0 : Option Addr) (c0 : Nat) (l0 : List (S32)) (A1 : Option Addr) (c1 : Nat) (l1 : List (S32)) (r : Bool) (w : World) (hr0 : Kd.C k32 w A0 l0.length l0) (hc0 : l0.length ≤ c0) (hr1 : Kd.C k32 w A1 l1.length l1) (hc1 : l1.length ≤ c1) (h : selvagelaw27_same.f k l0 l1 = some r) :
  Calls Tryd.prog 15 #[.slice A0 l0.length c0, .slice A1 l1.length c1] w fun e w' => e = .returned (.bool r) ∧ Drawn0 w w' := by
 have hu32 := Tryd.underlying32
 have HR0 := Aside0.mk hr0
 have HC0 := Aside0.mk hc0
 clear hr0 hc0
 have HR1 := Aside0.mk hr1
 have HC1 := Aside0.mk hc1
 clear hr1 hc1
 have H : (if (l0.length : Int) = (l1.length : Int) then (selvagelaw27_same.l0 k l0 l1 0) else (some false)) = some r := h
 clear h
 by_cases c3 : (l0.length : Int) = (l1.length : Int)
 ·rw [if_pos c3] at H
  have c3b0 : ((l0.length : Int) == (l1.length : Int)) = true := beq_iff_eq.mpr c3
  have c3b1 : ((l0.length : Int) != (l1.length : Int)) = false := bne_eq_false_iff_eq.mpr c3
  have c3b2 : (l0.length == l1.length) = true := by first | simpa using c3 | (simp at c3 ⊢; omega)
  clear c3
  have H' := Aside0.mk H
  clear H
  go_enter Tryd.func15, Tryd.ntmps15
  go_wp2
  repeat (go_quiet (fail); try go_wp2)
  go_loopg [5] k (fun kq v5 w' => ∃ (x5_1 : Int), v5 = .int .i64 x5_1 ∧ Aside0 (selvagelaw27_same.l0 kq l0 l1 x5_1 = some r) ∧ Aside0 (kq ≤ k) ∧ Drawn0 w w')
  case atStart => exact ⟨(0), eqNow, H', ⟨Nat.le_refl _⟩, drawnNow⟩
  case round =>
   clear H'
   try clear c1
   try clear p2
   try clear c3
   try clear c3b0
   try clear c3b1
   try clear c3b2
   obtain ⟨x5_1, rfl, HA, HK1, ⟨m1, rfl⟩⟩ := hrel
   cases gk with
   | zero => exact absurd HA.out (by simp [selvagelaw27_same.l0])
   | succ k1 =>
    have H := HA.out
    clear HA
    simp only [selvagelaw27_same.l0] at H
    by_cases c4 : x5_1 < (l0.length : Int)
    ·rw [if_pos c4] at H
     have c4b0 : decide (x5_1 < (l0.length : Int)) = true := decide_eq_true c4
     clear c4
     by_cases c5 : 0 ≤ x5_1
     ·rw [if_pos c5] at H
      have c5b0 : decide (0 ≤ x5_1) = true := decide_eq_true c5
      clear c5
      by_cases c6 : x5_1 < (l1.length : Int)
      ·rw [if_pos c6] at H
       have c6b0 : decide (x5_1 < (l1.length : Int)) = true := decide_eq_true c6
       clear c6
       by_cases c7 : (!(((rd_T32 l0 x5_1).f0) == ((rd_T32 l1 x5_1).f0)) || (!((((rd_T32 l0 x5_1).f1).toList) == (((rd_T32 l1 x5_1).f1).toList)) || (!((((rd_T32 l0 x5_1).f2).toList) == (((rd_T32 l1 x5_1).f2).toList))))) = true
       ·rw [if_pos c7] at H
        have c7b0 : (!(((rd_T32 l0 x5_1).f0) == ((rd_T32 l1 x5_1).f0)) || (!((((rd_T32 l0 x5_1).f1).toList) == (((rd_T32 l1 x5_1).f1).toList)) || (!((((rd_T32 l0 x5_1).f2).toList) == (((rd_T32 l1 x5_1).f2).toList))))) = true := c7
        clear c7
        obtain rfl := Option.some.inj H
        have p216 : 0 ≤ (x5_1 : Int) := ofDec
        have q216 : x5_1 < (l0.length : Int) := ofDec
        obtain ⟨ad216, e216, hx216_0, hx216_1, hx216_2⟩ := at_T32 HR0.out x5_1 p216 q216
        cases e216
        replace p216 := eq_true p216
        replace q216 := eq_true q216
        have p217 : 0 ≤ (x5_1 : Int) := ofDec
        have q217 : x5_1 < (l1.length : Int) := ofDec
        obtain ⟨ad217, e217, hx217_0, hx217_1, hx217_2⟩ := at_T32 HR1.out x5_1 p217 q217
        cases e217
        replace p217 := eq_true p217
        replace q217 := eq_true q217
        go_wp2
        repeat (go_quiet (fail); try go_wp2)
        go_ret
        exact ⟨eqFin, drawnNow⟩
       ·rw [if_neg c7] at H
        have c7b0 : (!(((rd_T32 l0 x5_1).f0) == ((rd_T32 l1 x5_1).f0)) || (!((((rd_T32 l0 x5_1).f1).toList) == (((rd_T32 l1 x5_1).f1).toList)) || (!((((rd_T32 l0 x5_1).f2).toList) == (((rd_T32 l1 x5_1).f2).toList))))) = false := by simpa using c7
        clear c7
        have H' := Aside0.mk H
        clear H
        have p216 : 0 ≤ (x5_1 : Int) := ofDec
        have q216 : x5_1 < (l0.length : Int) := ofDec
        obtain ⟨ad216, e216, hx216_0, hx216_1, hx216_2⟩ := at_T32 HR0.out x5_1 p216 q216
        cases e216
        replace p216 := eq_true p216
        replace q216 := eq_true q216
        have p217 : 0 ≤ (x5_1 : Int) := ofDec
        have q217 : x5_1 < (l1.length : Int) := ofDec
        obtain ⟨ad217, e217, hx217_0, hx217_1, hx217_2⟩ := at_T32 HR1.out x5_1 p217 q217
        cases e217
        replace p217 := eq_true p217
        replace q217 := eq_true q217
        go_wp2
        repeat (go_quiet (fail); try go_wp2)
        go_roundg k1
        case measure => have := HK1.out; omega
        case rel => exact ⟨(wrap64 (x5_1 + 1)), eqNow, H', ⟨by have := HK1.out; omega⟩, drawnNow⟩
      ·rw [if_neg c6] at H
       exact absurd H (by simp)
     ·rw [if_neg c5] at H
      exact absurd H (by simp)
    ·rw [if_neg c4] at H
     have c4b0 : decide (x5_1 < (l0.length : Int)) = false := decide_eq_false c4
     clear c4
     obtain rfl := Option.some.inj H
     go_wp2
     repeat (go_quiet (fail); try go_wp2)
     go_ret
     exact ⟨eqFin, drawnNow⟩
 ·rw [if_neg c3] at H
  have c3b0 : ((l0.length : Int) == (l1.length : Int)) = false := beq_eq_false_iff_ne.mpr c3
  have c3b1 : ((l0.length : Int) != (l1.length : Int)) = true := bne_iff_ne.mpr c3
  have c3b2 : (l0.length == l1.length) = false := by first | simpa using c3 | (simp at c3 ⊢; omega)
  obtain rfl := Option.some.inj H
  go_enter Tryd.func15, Tryd.ntmps15
  go_wp2
  repeat (go_quiet (fail); try go_wp2)
  go_ret
  exact ⟨eqFin, drawnNow⟩
def selvagelaw27_sure.f (k : Nat)  : Option (Bool) := (some (([(⟨1, (⟨#[97]⟩ : ByteArray), (⟨#[98, 32, 99]⟩ : ByteArray)⟩ : S32), (⟨2, (⟨#[100]⟩ : ByteArray), (⟨#[]⟩ : ByteArray)⟩ : S32)] : List (S32)) : List (S32))).bind fun y218 => ((journal_Encode.f k y218).bind fun bt221 => ((journal_Decode.f k (⟨#[115, 101, 108, 118, 97, 103, 101, 32, 106, 111, 117, 114, 110, 97, 108, 32, 49, 10, 114, 101, 110, 97, 109, 101, 32, 97, 9, 34, 98, 32, 99, 34, 10, 114, 101, 109, 111, 118, 101, 32, 100, 10, 101, 110, 100, 10]⟩ : ByteArray)).bind fun bt223 => (if 0 ≤ 45 then (if 45 ≤ 46 then ((journal_Decode.f k ((⟨#[115, 101, 108, 118, 97, 103, 101, 32, 106, 111, 117, 114, 110, 97, 108, 32, 49, 10, 114, 101, 110, 97, 109, 101, 32, 97, 9, 34, 98, 32, 99, 34, 10, 114, 101, 109, 111, 118, 101, 32, 100, 10, 101, 110, 100, 10]⟩ : ByteArray).extract 0 45)).bind fun bt227 => (if bt221.1.toList = ([115, 101, 108, 118, 97, 103, 101, 32, 106, 111, 117, 114, 110, 97, 108, 32, 49, 10, 114, 101, 110, 97, 109, 101, 32, 97, 9, 34, 98, 32, 99, 34, 10, 114, 101, 109, 111, 118, 101, 32, 100, 10, 101, 110, 100, 10] : List UInt8) then (if bt221.2.isNone = true then ((selvagelaw27_same.f k y218 bt223.1).bind fun t232 => (if t232 = true then (if bt223.2.isNone = true then ((selvagelaw27_num.f bt227.2).bind fun t234 => (if t234 = 270 then ((journal_Valid.f k 0 (⟨#[]⟩ : ByteArray) (⟨#[]⟩ : ByteArray)).bind fun t235 => ((selvagelaw27_num.f t235).bind fun t236 => (some (t236 == 1)))) else (some false))) else (some false)) else (some false))) else (some false)) else (some false))) else (none)) else (none))))
theorem selvagelaw27_sure.mono : ∀ k, LeO (selvagelaw27_sure.f k ) (selvagelaw27_sure.f (k + 1) ) := by
 intro  k
 unfold selvagelaw27_sure.f
 repeat' first
   | (with_reducible exact journal_Decode.mono _ _)
   | (with_reducible exact journal_Encode.mono _ _)
   | (with_reducible exact journal_Valid.mono _ _ _ _)
   | (with_reducible exact selvagelaw27_same.mono _ _ _)
   | (with_reducible exact LeO.refl _)
   | (with_reducible exact LeO.none _)
   | (with_reducible refine LeO.ite ?_ ?_)
   | (with_reducible refine LeO.bind ?_ (fun _ => ?_))
   | exact journal_Decode.mono _ _
   | exact journal_Encode.mono _ _
   | exact journal_Valid.mono _ _ _ _
   | exact selvagelaw27_same.mono _ _ _
   | exact LeO.none _
   | refine LeO.ite ?_ ?_
   | refine LeO.bind ?_ (fun _ => ?_)
set_option maxHeartbeats 8000000 in
set_option maxRecDepth 100000 in
theorem selvagelaw27_sure.calls (k : Nat)  (r : Bool) (w : World) (hGL : Glob w) (h : selvagelaw27_sure.f k  = some r) :
  Calls Tryd.prog 12 #[] w fun e w' => e = .returned (.bool r) ∧ Below w.heap.size w w' := by
 have hu32 := Tryd.underlying32
 have hu24 := Tryd.underlying24
 have hu53 := Tryd.underlying53
 have HB := Aside0.mk (Below.refl w.heap.size w)
 have H : ((some (([(⟨1, (⟨#[97]⟩ : ByteArray), (⟨#[98, 32, 99]⟩ : ByteArray)⟩ : S32), (⟨2, (⟨#[100]⟩ : ByteArray), (⟨#[]⟩ : ByteArray)⟩ : S32)] : List (S32)) : List (S32))).bind fun y218 => ((journal_Encode.f k y218).bind fun bt221 => ((journal_Decode.f k (⟨#[115, 101, 108, 118, 97, 103, 101, 32, 106, 111, 117, 114, 110, 97, 108, 32, 49, 10, 114, 101, 110, 97, 109, 101, 32, 97, 9, 34, 98, 32, 99, 34, 10, 114, 101, 109, 111, 118, 101, 32, 100, 10, 101, 110, 100, 10]⟩ : ByteArray)).bind fun bt223 => (if 0 ≤ 45 then (if 45 ≤ 46 then ((journal_Decode.f k ((⟨#[115, 101, 108, 118, 97, 103, 101, 32, 106, 111, 117, 114, 110, 97, 108, 32, 49, 10, 114, 101, 110, 97, 109, 101, 32, 97, 9, 34, 98, 32, 99, 34, 10, 114, 101, 109, 111, 118, 101, 32, 100, 10, 101, 110, 100, 10]⟩ : ByteArray).extract 0 45)).bind fun bt227 => (if bt221.1.toList = ([115, 101, 108, 118, 97, 103, 101, 32, 106, 111, 117, 114, 110, 97, 108, 32, 49, 10, 114, 101, 110, 97, 109, 101, 32, 97, 9, 34, 98, 32, 99, 34, 10, 114, 101, 109, 111, 118, 101, 32, 100, 10, 101, 110, 100, 10] : List UInt8) then (if bt221.2.isNone = true then ((selvagelaw27_same.f k y218 bt223.1).bind fun t232 => (if t232 = true then (if bt223.2.isNone = true then ((selvagelaw27_num.f bt227.2).bind fun t234 => (if t234 = 270 then ((journal_Valid.f k 0 (⟨#[]⟩ : ByteArray) (⟨#[]⟩ : ByteArray)).bind fun t235 => ((selvagelaw27_num.f t235).bind fun t236 => (some (t236 == 1)))) else (some false))) else (some false)) else (some false))) else (some false)) else (some false))) else (none)) else (none))))) = some r := h
 clear h
 obtain ⟨y218, hy218⟩ : ∃ y_ : List (S32), y_ = (([(⟨1, (⟨#[97]⟩ : ByteArray), (⟨#[98, 32, 99]⟩ : ByteArray)⟩ : S32), (⟨2, (⟨#[100]⟩ : ByteArray), (⟨#[]⟩ : ByteArray)⟩ : S32)] : List (S32))) := ⟨_, rfl⟩
 replace H : ((journal_Encode.f k y218).bind fun bt221 => ((journal_Decode.f k (⟨#[115, 101, 108, 118, 97, 103, 101, 32, 106, 111, 117, 114, 110, 97, 108, 32, 49, 10, 114, 101, 110, 97, 109, 101, 32, 97, 9, 34, 98, 32, 99, 34, 10, 114, 101, 109, 111, 118, 101, 32, 100, 10, 101, 110, 100, 10]⟩ : ByteArray)).bind fun bt223 => (if 0 ≤ 45 then (if 45 ≤ 46 then ((journal_Decode.f k ((⟨#[115, 101, 108, 118, 97, 103, 101, 32, 106, 111, 117, 114, 110, 97, 108, 32, 49, 10, 114, 101, 110, 97, 109, 101, 32, 97, 9, 34, 98, 32, 99, 34, 10, 114, 101, 109, 111, 118, 101, 32, 100, 10, 101, 110, 100, 10]⟩ : ByteArray).extract 0 45)).bind fun bt227 => (if bt221.1.toList = ([115, 101, 108, 118, 97, 103, 101, 32, 106, 111, 117, 114, 110, 97, 108, 32, 49, 10, 114, 101, 110, 97, 109, 101, 32, 97, 9, 34, 98, 32, 99, 34, 10, 114, 101, 109, 111, 118, 101, 32, 100, 10, 101, 110, 100, 10] : List UInt8) then (if bt221.2.isNone = true then ((selvagelaw27_same.f k y218 bt223.1).bind fun t232 => (if t232 = true then (if bt223.2.isNone = true then ((selvagelaw27_num.f bt227.2).bind fun t234 => (if t234 = 270 then ((journal_Valid.f k 0 (⟨#[]⟩ : ByteArray) (⟨#[]⟩ : ByteArray)).bind fun t235 => ((selvagelaw27_num.f t235).bind fun t236 => (some (t236 == 1)))) else (some false))) else (some false)) else (some false))) else (some false)) else (some false))) else (none)) else (none)))) = some r := by first | (rw [hy218]; with_reducible exact H) | (have H2_ := (Option.bind_some _ _).symm.trans H; rw [hy218]; with_reducible exact H2_) | (have H2_ := (Option.bind_some _ _).symm.trans H; with_reducible exact H2_) | with_reducible exact H | (rw [hy218]; exact H) | exact H
 have Ny218 := Aside0.mk hy218
 clear hy218
 replace H := Option.bind_eq_some_iff.mp H
 obtain ⟨⟨t221, t222⟩, A10, H⟩ := H
 replace H : ((journal_Decode.f k (⟨#[115, 101, 108, 118, 97, 103, 101, 32, 106, 111, 117, 114, 110, 97, 108, 32, 49, 10, 114, 101, 110, 97, 109, 101, 32, 97, 9, 34, 98, 32, 99, 34, 10, 114, 101, 109, 111, 118, 101, 32, 100, 10, 101, 110, 100, 10]⟩ : ByteArray)).bind fun bt223 => (if 0 ≤ 45 then (if 45 ≤ 46 then ((journal_Decode.f k ((⟨#[115, 101, 108, 118, 97, 103, 101, 32, 106, 111, 117, 114, 110, 97, 108, 32, 49, 10, 114, 101, 110, 97, 109, 101, 32, 97, 9, 34, 98, 32, 99, 34, 10, 114, 101, 109, 111, 118, 101, 32, 100, 10, 101, 110, 100, 10]⟩ : ByteArray).extract 0 45)).bind fun bt227 => (if t221.toList = ([115, 101, 108, 118, 97, 103, 101, 32, 106, 111, 117, 114, 110, 97, 108, 32, 49, 10, 114, 101, 110, 97, 109, 101, 32, 97, 9, 34, 98, 32, 99, 34, 10, 114, 101, 109, 111, 118, 101, 32, 100, 10, 101, 110, 100, 10] : List UInt8) then (if t222.isNone = true then ((selvagelaw27_same.f k y218 bt223.1).bind fun t232 => (if t232 = true then (if bt223.2.isNone = true then ((selvagelaw27_num.f bt227.2).bind fun t234 => (if t234 = 270 then ((journal_Valid.f k 0 (⟨#[]⟩ : ByteArray) (⟨#[]⟩ : ByteArray)).bind fun t235 => ((selvagelaw27_num.f t235).bind fun t236 => (some (t236 == 1)))) else (some false))) else (some false)) else (some false))) else (some false)) else (some false))) else (none)) else (none))) = some r := H
 have A1 := Aside0.mk A10
 clear A10
 replace H := Option.bind_eq_some_iff.mp H
 obtain ⟨⟨t223, t224⟩, A20, H⟩ := H
 replace H : (if 0 ≤ 45 then (if 45 ≤ 46 then ((journal_Decode.f k ((⟨#[115, 101, 108, 118, 97, 103, 101, 32, 106, 111, 117, 114, 110, 97, 108, 32, 49, 10, 114, 101, 110, 97, 109, 101, 32, 97, 9, 34, 98, 32, 99, 34, 10, 114, 101, 109, 111, 118, 101, 32, 100, 10, 101, 110, 100, 10]⟩ : ByteArray).extract 0 45)).bind fun bt227 => (if t221.toList = ([115, 101, 108, 118, 97, 103, 101, 32, 106, 111, 117, 114, 110, 97, 108, 32, 49, 10, 114, 101, 110, 97, 109, 101, 32, 97, 9, 34, 98, 32, 99, 34, 10, 114, 101, 109, 111, 118, 101, 32, 100, 10, 101, 110, 100, 10] : List UInt8) then (if t222.isNone = true then ((selvagelaw27_same.f k y218 t223).bind fun t232 => (if t232 = true then (if t224.isNone = true then ((selvagelaw27_num.f bt227.2).bind fun t234 => (if t234 = 270 then ((journal_Valid.f k 0 (⟨#[]⟩ : ByteArray) (⟨#[]⟩ : ByteArray)).bind fun t235 => ((selvagelaw27_num.f t235).bind fun t236 => (some (t236 == 1)))) else (some false))) else (some false)) else (some false))) else (some false)) else (some false))) else (none)) else (none)) = some r := H
 have A2 := Aside0.mk A20
 clear A20
 by_cases c3 : 0 ≤ 45
 ·rw [if_pos c3] at H
  have c3b0 := eq_true c3
  have c3b1 : decide (0 ≤ 45) = true := decide_eq_true c3
  clear c3
  by_cases c4 : 45 ≤ 46
  ·rw [if_pos c4] at H
   have c4b0 := eq_true c4
   have c4b1 : decide (45 ≤ 46) = true := decide_eq_true c4
   clear c4
   replace H := Option.bind_eq_some_iff.mp H
   obtain ⟨⟨t227, t228⟩, A50, H⟩ := H
   replace H : (if t221.toList = ([115, 101, 108, 118, 97, 103, 101, 32, 106, 111, 117, 114, 110, 97, 108, 32, 49, 10, 114, 101, 110, 97, 109, 101, 32, 97, 9, 34, 98, 32, 99, 34, 10, 114, 101, 109, 111, 118, 101, 32, 100, 10, 101, 110, 100, 10] : List UInt8) then (if t222.isNone = true then ((selvagelaw27_same.f k y218 t223).bind fun t232 => (if t232 = true then (if t224.isNone = true then ((selvagelaw27_num.f t228).bind fun t234 => (if t234 = 270 then ((journal_Valid.f k 0 (⟨#[]⟩ : ByteArray) (⟨#[]⟩ : ByteArray)).bind fun t235 => ((selvagelaw27_num.f t235).bind fun t236 => (some (t236 == 1)))) else (some false))) else (some false)) else (some false))) else (some false)) else (some false)) = some r := H
   have A5 := Aside0.mk A50
   clear A50
   by_cases c6 : t221.toList = ([115, 101, 108, 118, 97, 103, 101, 32, 106, 111, 117, 114, 110, 97, 108, 32, 49, 10, 114, 101, 110, 97, 109, 101, 32, 97, 9, 34, 98, 32, 99, 34, 10, 114, 101, 109, 111, 118, 101, 32, 100, 10, 101, 110, 100, 10] : List UInt8)
   ·rw [if_pos c6] at H
    have c6b0 : (t221.toList == ([115, 101, 108, 118, 97, 103, 101, 32, 106, 111, 117, 114, 110, 97, 108, 32, 49, 10, 114, 101, 110, 97, 109, 101, 32, 97, 9, 34, 98, 32, 99, 34, 10, 114, 101, 109, 111, 118, 101, 32, 100, 10, 101, 110, 100, 10] : List UInt8)) = true := beq_iff_eq.mpr c6
    have c6b1 : (t221.toList != ([115, 101, 108, 118, 97, 103, 101, 32, 106, 111, 117, 114, 110, 97, 108, 32, 49, 10, 114, 101, 110, 97, 109, 101, 32, 97, 9, 34, 98, 32, 99, 34, 10, 114, 101, 109, 111, 118, 101, 32, 100, 10, 101, 110, 100, 10] : List UInt8)) = false := bne_eq_false_iff_eq.mpr c6
    clear c6
    rcases t222 with _ | q231
    ·have H1 : ((selvagelaw27_same.f k y218 t223).bind fun t232 => (if t232 = true then (if t224.isNone = true then ((selvagelaw27_num.f t228).bind fun t234 => (if t234 = 270 then ((journal_Valid.f k 0 (⟨#[]⟩ : ByteArray) (⟨#[]⟩ : ByteArray)).bind fun t235 => ((selvagelaw27_num.f t235).bind fun t236 => (some (t236 == 1)))) else (some false))) else (some false)) else (some false))) = some r := by rw [if_pos (show (none : Option Int).isNone = true by rfl)] at H; exact H
     clear H
     have H := H1
     clear H1
     try simp only [errW_none, errW_some]
     replace H := Option.bind_eq_some_iff.mp H
     obtain ⟨t232, A70, H⟩ := H
     replace H : (if t232 = true then (if t224.isNone = true then ((selvagelaw27_num.f t228).bind fun t234 => (if t234 = 270 then ((journal_Valid.f k 0 (⟨#[]⟩ : ByteArray) (⟨#[]⟩ : ByteArray)).bind fun t235 => ((selvagelaw27_num.f t235).bind fun t236 => (some (t236 == 1)))) else (some false))) else (some false)) else (some false)) = some r := H
     have A7 := Aside0.mk A70
     clear A70
     by_cases c8 : t232 = true
     ·subst c8
      have H1 : (if t224.isNone = true then ((selvagelaw27_num.f t228).bind fun t234 => (if t234 = 270 then ((journal_Valid.f k 0 (⟨#[]⟩ : ByteArray) (⟨#[]⟩ : ByteArray)).bind fun t235 => ((selvagelaw27_num.f t235).bind fun t236 => (some (t236 == 1)))) else (some false))) else (some false)) = some r := by rw [if_pos rfl] at H; exact H
      clear H
      have H := H1
      clear H1
      rcases t224 with _ | q233
      ·have H1 : ((selvagelaw27_num.f t228).bind fun t234 => (if t234 = 270 then ((journal_Valid.f k 0 (⟨#[]⟩ : ByteArray) (⟨#[]⟩ : ByteArray)).bind fun t235 => ((selvagelaw27_num.f t235).bind fun t236 => (some (t236 == 1)))) else (some false))) = some r := by rw [if_pos (show (none : Option Int).isNone = true by rfl)] at H; exact H
       clear H
       have H := H1
       clear H1
       try simp only [errW_none, errW_some]
       replace H := Option.bind_eq_some_iff.mp H
       obtain ⟨t234, A90, H⟩ := H
       replace H : (if t234 = 270 then ((journal_Valid.f k 0 (⟨#[]⟩ : ByteArray) (⟨#[]⟩ : ByteArray)).bind fun t235 => ((selvagelaw27_num.f t235).bind fun t236 => (some (t236 == 1)))) else (some false)) = some r := H
       have A9 := Aside0.mk A90
       clear A90
       by_cases c10 : t234 = 270
       ·rw [if_pos c10] at H
        have c10b0 : (t234 == 270) = true := beq_iff_eq.mpr c10
        have c10b1 : (t234 != 270) = false := bne_eq_false_iff_eq.mpr c10
        clear c10
        replace H := Option.bind_eq_some_iff.mp H
        obtain ⟨t235, A110, H⟩ := H
        replace H : ((selvagelaw27_num.f t235).bind fun t236 => (some (t236 == 1))) = some r := H
        have A11 := Aside0.mk A110
        clear A110
        replace H := Option.bind_eq_some_iff.mp H
        obtain ⟨t236, A120, H⟩ := H
        replace H : (some (t236 == 1)) = some r := H
        have A12 := Aside0.mk A120
        clear A120
        obtain rfl := Option.some.inj H
        go_enter Tryd.func12, Tryd.ntmps12
        go_wp2_with (first | ((with_reducible refine gate_dst (N := 10) rfl ?_); refine Kd.R_lit k32 _ 32 ?hg (N := 10) ?hd (xs := ([(⟨1, (⟨#[97]⟩ : ByteArray), (⟨#[98, 32, 99]⟩ : ByteArray)⟩ : S32), (⟨2, (⟨#[100]⟩ : ByteArray), (⟨#[]⟩ : ByteArray)⟩ : S32)] : List (S32))) (inner := [.int .i64 1, .string (⟨#[97]⟩ : ByteArray), .string (⟨#[98, 32, 99]⟩ : ByteArray), .int .i64 2, .string (⟨#[100]⟩ : ByteArray), .string (⟨#[]⟩ : ByteArray)]) (ok := fun _ => True) (okp := fun _ => True) ?hr ?hp (fun _ hk => hk) trivial (Below.refl _ _) (Nat.le_refl _) (by simp) ?_; (case hd => rfl); (case hg => rfl); (case hr => first | (go_simp; done) | (go_simp; rfl)); (case hp => exact (Reps.c3 (show Kd.M k32 _ _ _ (⟨1, (⟨#[97]⟩ : ByteArray), (⟨#[98, 32, 99]⟩ : ByteArray)⟩ : S32) [.int .i64 1, .string (⟨#[97]⟩ : ByteArray), .string (⟨#[98, 32, 99]⟩ : ByteArray)] from (k32_mkM _ _ _ (⟨1, (⟨#[97]⟩ : ByteArray), (⟨#[98, 32, 99]⟩ : ByteArray)⟩ : S32) )) (Reps.c3 (show Kd.M k32 _ _ _ (⟨2, (⟨#[100]⟩ : ByteArray), (⟨#[]⟩ : ByteArray)⟩ : S32) [.int .i64 2, .string (⟨#[100]⟩ : ByteArray), .string (⟨#[]⟩ : ByteArray)] from (k32_mkM _ _ _ (⟨2, (⟨#[100]⟩ : ByteArray), (⟨#[]⟩ : ByteArray)⟩ : S32) )) (Reps.none _ _)))); intro v219 w13 ho14 hb hg_ hnew_; clear hg_ hnew_; (first | rw [← Ny218.out] at ho14 | (simp only [Int.reduceToNat] at ho14; rw [← Ny218.out] at ho14)); have n0_ := Aside0.mk (Kd.R_lower ho14 (below_size belNow)); have n1_ := Aside0.mk (below_step belNow hb); clear HB; have HO220 := n0_; have HB := n1_; clear n0_ n1_; clear hb ho14; obtain ⟨Ao15, co15, eo15⟩ := Kd.R_slice HO220.out; subst eo15) | ((with_reducible refine gate_callee (f := 7) rfl ?_); refine goesL_ (some 13) rfl rfl Tryd.func7 (by kernel_rfl) rfl #[.slice Ao15 y218.length co15] rfl argsOk ?_; (with_reducible refine (journal_Encode.calls k _ _ y218 t221 none _ ?side1 ?side2 ?side3 A1.out).mono ?_); (case side1 => repeat (first | exact (Kd.R_reads' HO220.out).2.2 | (with_reducible refine Kd.C_alloc ?_ _) | (with_reducible refine Kd.C_drewN ?_ _) | (with_reducible refine Kd.C_drew ?_))); (case side2 => exact (Kd.R_reads' HO220.out).2.1); (case side3 => exact Glob.below hGL belNow); rintro e w16 ⟨rfl, hb⟩; refine ⟨_, rfl, ?_⟩; have n0_ := Aside0.mk (Kd.R_below (kdUp HO220.out) hb); have n1_ := Aside0.mk (below_step belNow hb); clear HO220; clear HB; have HO220 := n0_; have HB := n1_; clear n0_ n1_; (try clear hb); (try clear hb2); (try clear hk); (try clear hi); (try simp only [errW_none, errW_some])) | ((with_reducible refine gate_callee (f := 13) rfl ?_); refine goesL_ (some 17) rfl rfl Tryd.func13 (by kernel_rfl) rfl #[.string (⟨#[115, 101, 108, 118, 97, 103, 101, 32, 106, 111, 117, 114, 110, 97, 108, 32, 49, 10, 114, 101, 110, 97, 109, 101, 32, 97, 9, 34, 98, 32, 99, 34, 10, 114, 101, 109, 111, 118, 101, 32, 100, 10, 101, 110, 100, 10]⟩ : ByteArray)] rfl argsOk ?_; (with_reducible refine (journal_Decode.calls k (⟨#[115, 101, 108, 118, 97, 103, 101, 32, 106, 111, 117, 114, 110, 97, 108, 32, 49, 10, 114, 101, 110, 97, 109, 101, 32, 97, 9, 34, 98, 32, 99, 34, 10, 114, 101, 109, 111, 118, 101, 32, 100, 10, 101, 110, 100, 10]⟩ : ByteArray) t223 none _ ?side1 A2.out).mono ?_); (case side1 => exact Glob.below hGL belNow); rintro e w17 ⟨v225, rfl, ho0, hb⟩; refine ⟨_, rfl, ?_⟩; have n0_ := Aside0.mk (Kd.R_elder' (kdUp HO220.out) (Kd.R_base ho0) hb); have n1_ := Aside0.mk (Kd.R_lower (Kd.R_new' ho0 (Kd.R_lt (kdUp HO220.out))) (below_size belNow)); have n2_ := Aside0.mk (below_step belNow hb); clear HO220; clear HB; have HO220 := n0_; have HO226 := n1_; have HB := n2_; clear n0_ n1_ n2_; (try clear hb); (try clear hb2); (try clear hk); (try clear hi); (try clear ho0); (try simp only [errW_none, errW_some])) | ((with_reducible refine gate_callee (f := 13) rfl ?_); refine goesL_ (some 22) rfl rfl Tryd.func13 (by kernel_rfl) rfl #[.string ((⟨#[115, 101, 108, 118, 97, 103, 101, 32, 106, 111, 117, 114, 110, 97, 108, 32, 49, 10, 114, 101, 110, 97, 109, 101, 32, 97, 9, 34, 98, 32, 99, 34, 10, 114, 101, 109, 111, 118, 101, 32, 100, 10, 101, 110, 100, 10]⟩ : ByteArray).extract 0 45)] rfl argsOk ?_; (with_reducible refine (journal_Decode.calls k ((⟨#[115, 101, 108, 118, 97, 103, 101, 32, 106, 111, 117, 114, 110, 97, 108, 32, 49, 10, 114, 101, 110, 97, 109, 101, 32, 97, 9, 34, 98, 32, 99, 34, 10, 114, 101, 109, 111, 118, 101, 32, 100, 10, 101, 110, 100, 10]⟩ : ByteArray).extract 0 45) t227 t228 _ ?side1 A5.out).mono ?_); (case side1 => exact Glob.below hGL belNow); rintro e w18 ⟨v229, rfl, ho0, hb⟩; refine ⟨_, rfl, ?_⟩; have n0_ := Aside0.mk (Kd.R_elder' (kdUp HO220.out) (Kd.R_base ho0) hb); have n1_ := Aside0.mk (Kd.R_elder' (kdUp HO226.out) (Kd.R_base ho0) hb); have n2_ := Aside0.mk (Kd.R_lower (Kd.R_new' (Kd.R_new' ho0 (Kd.R_lt (kdUp HO220.out))) (Kd.R_lt (kdUp HO226.out))) (below_size belNow)); have n3_ := Aside0.mk (below_step belNow hb); clear HO220; clear HO226; clear HB; have HO220 := n0_; have HO226 := n1_; have HO230 := n2_; have HB := n3_; clear n0_ n1_ n2_ n3_; (try clear hb); (try clear hb2); (try clear hk); (try clear hi); (try clear ho0); (try simp only [errW_none, errW_some]); obtain ⟨Ao19, co19, eo19⟩ := Kd.R_slice HO226.out; subst eo19) | (go_at_call 15; (with_reducible refine (selvagelaw27_same.calls k _ _ y218 _ _ t223 true _ ?side1 ?side2 ?side3 ?side4 A7.out).mono ?_); (case side1 => repeat (first | exact (Kd.R_reads' HO220.out).2.2 | (with_reducible refine Kd.C_alloc ?_ _) | (with_reducible refine Kd.C_drewN ?_ _) | (with_reducible refine Kd.C_drew ?_))); (case side2 => exact (Kd.R_reads' HO220.out).2.1); (case side3 => repeat (first | exact (Kd.R_reads' HO226.out).2.2 | (with_reducible refine Kd.C_alloc ?_ _) | (with_reducible refine Kd.C_drewN ?_ _) | (with_reducible refine Kd.C_drew ?_))); (case side4 => exact (Kd.R_reads' HO226.out).2.1); rintro e w' ⟨rfl, ⟨nd, rfl⟩⟩; have CA9 := fun W (hG_ : Glob W) => selvagelaw27_num.calls t228 t234 W hG_ A9.out; try simp only [errW_none, errW_some] at CA9) | (go_at_call 9; (with_reducible refine (CA9 _ ?side1).mono ?_); (case side1 => exact Glob.below hGL belNow); rintro e w20 ⟨rfl, hb⟩; have n0_ := Aside0.mk (Kd.R_below (kdUp HO220.out) hb); have n1_ := Aside0.mk (Kd.R_below (kdUp HO226.out) hb); have n2_ := Aside0.mk (Kd.R_below (kdUp HO230.out) hb); have n3_ := Aside0.mk (below_step belNow hb); clear HO220; clear HO226; clear HO230; clear HB; have HO220 := n0_; have HO226 := n1_; have HO230 := n2_; have HB := n3_; clear n0_ n1_ n2_ n3_; (try clear hb); (try clear hb2); (try clear hk); (try clear hi)) | (go_at_call 10; (with_reducible refine (journal_Valid.calls k 0 (⟨#[]⟩ : ByteArray) (⟨#[]⟩ : ByteArray) t235 _ ?side1 A11.out).mono ?_); (case side1 => exact Glob.below hGL belNow); rintro e w21 ⟨rfl, hb⟩; have n0_ := Aside0.mk (Kd.R_below (kdUp HO220.out) hb); have n1_ := Aside0.mk (Kd.R_below (kdUp HO226.out) hb); have n2_ := Aside0.mk (Kd.R_below (kdUp HO230.out) hb); have n3_ := Aside0.mk (below_step belNow hb); clear HO220; clear HO226; clear HO230; clear HB; have HO220 := n0_; have HO226 := n1_; have HO230 := n2_; have HB := n3_; clear n0_ n1_ n2_ n3_; (try clear hb); (try clear hb2); (try clear hk); (try clear hi); (try simp only [errW_none, errW_some]); have CA12 := fun W (hG_ : Glob W) => selvagelaw27_num.calls t235 t236 W hG_ A12.out; try simp only [errW_none, errW_some] at CA12) | (go_at_call 9; (with_reducible refine (CA12 _ ?side1).mono ?_); (case side1 => exact Glob.below hGL belNow); rintro e w22 ⟨rfl, hb⟩; have n0_ := Aside0.mk (Kd.R_below (kdUp HO220.out) hb); have n1_ := Aside0.mk (Kd.R_below (kdUp HO226.out) hb); have n2_ := Aside0.mk (Kd.R_below (kdUp HO230.out) hb); have n3_ := Aside0.mk (below_step belNow hb); clear HO220; clear HO226; clear HO230; clear HB; have HO220 := n0_; have HO226 := n1_; have HO230 := n2_; have HB := n3_; clear n0_ n1_ n2_ n3_; (try clear hb); (try clear hb2); (try clear hk); (try clear hi)))
        go_ret
        exact ⟨eqEnd, belNow⟩
       ·rw [if_neg c10] at H
        have c10b0 : (t234 == 270) = false := beq_eq_false_iff_ne.mpr c10
        have c10b1 : (t234 != 270) = true := bne_iff_ne.mpr c10
        obtain rfl := Option.some.inj H
        go_enter Tryd.func12, Tryd.ntmps12
        go_wp2_with (first | ((with_reducible refine gate_dst (N := 10) rfl ?_); refine Kd.R_lit k32 _ 32 ?hg (N := 10) ?hd (xs := ([(⟨1, (⟨#[97]⟩ : ByteArray), (⟨#[98, 32, 99]⟩ : ByteArray)⟩ : S32), (⟨2, (⟨#[100]⟩ : ByteArray), (⟨#[]⟩ : ByteArray)⟩ : S32)] : List (S32))) (inner := [.int .i64 1, .string (⟨#[97]⟩ : ByteArray), .string (⟨#[98, 32, 99]⟩ : ByteArray), .int .i64 2, .string (⟨#[100]⟩ : ByteArray), .string (⟨#[]⟩ : ByteArray)]) (ok := fun _ => True) (okp := fun _ => True) ?hr ?hp (fun _ hk => hk) trivial (Below.refl _ _) (Nat.le_refl _) (by simp) ?_; (case hd => rfl); (case hg => rfl); (case hr => first | (go_simp; done) | (go_simp; rfl)); (case hp => exact (Reps.c3 (show Kd.M k32 _ _ _ (⟨1, (⟨#[97]⟩ : ByteArray), (⟨#[98, 32, 99]⟩ : ByteArray)⟩ : S32) [.int .i64 1, .string (⟨#[97]⟩ : ByteArray), .string (⟨#[98, 32, 99]⟩ : ByteArray)] from (k32_mkM _ _ _ (⟨1, (⟨#[97]⟩ : ByteArray), (⟨#[98, 32, 99]⟩ : ByteArray)⟩ : S32) )) (Reps.c3 (show Kd.M k32 _ _ _ (⟨2, (⟨#[100]⟩ : ByteArray), (⟨#[]⟩ : ByteArray)⟩ : S32) [.int .i64 2, .string (⟨#[100]⟩ : ByteArray), .string (⟨#[]⟩ : ByteArray)] from (k32_mkM _ _ _ (⟨2, (⟨#[100]⟩ : ByteArray), (⟨#[]⟩ : ByteArray)⟩ : S32) )) (Reps.none _ _)))); intro v219 w23 ho24 hb hg_ hnew_; clear hg_ hnew_; (first | rw [← Ny218.out] at ho24 | (simp only [Int.reduceToNat] at ho24; rw [← Ny218.out] at ho24)); have n0_ := Aside0.mk (Kd.R_lower ho24 (below_size belNow)); have n1_ := Aside0.mk (below_step belNow hb); clear HB; have HO220 := n0_; have HB := n1_; clear n0_ n1_; clear hb ho24; obtain ⟨Ao25, co25, eo25⟩ := Kd.R_slice HO220.out; subst eo25) | ((with_reducible refine gate_callee (f := 7) rfl ?_); refine goesL_ (some 13) rfl rfl Tryd.func7 (by kernel_rfl) rfl #[.slice Ao25 y218.length co25] rfl argsOk ?_; (with_reducible refine (journal_Encode.calls k _ _ y218 t221 none _ ?side1 ?side2 ?side3 A1.out).mono ?_); (case side1 => repeat (first | exact (Kd.R_reads' HO220.out).2.2 | (with_reducible refine Kd.C_alloc ?_ _) | (with_reducible refine Kd.C_drewN ?_ _) | (with_reducible refine Kd.C_drew ?_))); (case side2 => exact (Kd.R_reads' HO220.out).2.1); (case side3 => exact Glob.below hGL belNow); rintro e w26 ⟨rfl, hb⟩; refine ⟨_, rfl, ?_⟩; have n0_ := Aside0.mk (Kd.R_below (kdUp HO220.out) hb); have n1_ := Aside0.mk (below_step belNow hb); clear HO220; clear HB; have HO220 := n0_; have HB := n1_; clear n0_ n1_; (try clear hb); (try clear hb2); (try clear hk); (try clear hi); (try simp only [errW_none, errW_some])) | ((with_reducible refine gate_callee (f := 13) rfl ?_); refine goesL_ (some 17) rfl rfl Tryd.func13 (by kernel_rfl) rfl #[.string (⟨#[115, 101, 108, 118, 97, 103, 101, 32, 106, 111, 117, 114, 110, 97, 108, 32, 49, 10, 114, 101, 110, 97, 109, 101, 32, 97, 9, 34, 98, 32, 99, 34, 10, 114, 101, 109, 111, 118, 101, 32, 100, 10, 101, 110, 100, 10]⟩ : ByteArray)] rfl argsOk ?_; (with_reducible refine (journal_Decode.calls k (⟨#[115, 101, 108, 118, 97, 103, 101, 32, 106, 111, 117, 114, 110, 97, 108, 32, 49, 10, 114, 101, 110, 97, 109, 101, 32, 97, 9, 34, 98, 32, 99, 34, 10, 114, 101, 109, 111, 118, 101, 32, 100, 10, 101, 110, 100, 10]⟩ : ByteArray) t223 none _ ?side1 A2.out).mono ?_); (case side1 => exact Glob.below hGL belNow); rintro e w27 ⟨v225, rfl, ho0, hb⟩; refine ⟨_, rfl, ?_⟩; have n0_ := Aside0.mk (Kd.R_elder' (kdUp HO220.out) (Kd.R_base ho0) hb); have n1_ := Aside0.mk (Kd.R_lower (Kd.R_new' ho0 (Kd.R_lt (kdUp HO220.out))) (below_size belNow)); have n2_ := Aside0.mk (below_step belNow hb); clear HO220; clear HB; have HO220 := n0_; have HO226 := n1_; have HB := n2_; clear n0_ n1_ n2_; (try clear hb); (try clear hb2); (try clear hk); (try clear hi); (try clear ho0); (try simp only [errW_none, errW_some])) | ((with_reducible refine gate_callee (f := 13) rfl ?_); refine goesL_ (some 22) rfl rfl Tryd.func13 (by kernel_rfl) rfl #[.string ((⟨#[115, 101, 108, 118, 97, 103, 101, 32, 106, 111, 117, 114, 110, 97, 108, 32, 49, 10, 114, 101, 110, 97, 109, 101, 32, 97, 9, 34, 98, 32, 99, 34, 10, 114, 101, 109, 111, 118, 101, 32, 100, 10, 101, 110, 100, 10]⟩ : ByteArray).extract 0 45)] rfl argsOk ?_; (with_reducible refine (journal_Decode.calls k ((⟨#[115, 101, 108, 118, 97, 103, 101, 32, 106, 111, 117, 114, 110, 97, 108, 32, 49, 10, 114, 101, 110, 97, 109, 101, 32, 97, 9, 34, 98, 32, 99, 34, 10, 114, 101, 109, 111, 118, 101, 32, 100, 10, 101, 110, 100, 10]⟩ : ByteArray).extract 0 45) t227 t228 _ ?side1 A5.out).mono ?_); (case side1 => exact Glob.below hGL belNow); rintro e w28 ⟨v229, rfl, ho0, hb⟩; refine ⟨_, rfl, ?_⟩; have n0_ := Aside0.mk (Kd.R_elder' (kdUp HO220.out) (Kd.R_base ho0) hb); have n1_ := Aside0.mk (Kd.R_elder' (kdUp HO226.out) (Kd.R_base ho0) hb); have n2_ := Aside0.mk (Kd.R_lower (Kd.R_new' (Kd.R_new' ho0 (Kd.R_lt (kdUp HO220.out))) (Kd.R_lt (kdUp HO226.out))) (below_size belNow)); have n3_ := Aside0.mk (below_step belNow hb); clear HO220; clear HO226; clear HB; have HO220 := n0_; have HO226 := n1_; have HO230 := n2_; have HB := n3_; clear n0_ n1_ n2_ n3_; (try clear hb); (try clear hb2); (try clear hk); (try clear hi); (try clear ho0); (try simp only [errW_none, errW_some]); obtain ⟨Ao29, co29, eo29⟩ := Kd.R_slice HO226.out; subst eo29) | (go_at_call 15; (with_reducible refine (selvagelaw27_same.calls k _ _ y218 _ _ t223 true _ ?side1 ?side2 ?side3 ?side4 A7.out).mono ?_); (case side1 => repeat (first | exact (Kd.R_reads' HO220.out).2.2 | (with_reducible refine Kd.C_alloc ?_ _) | (with_reducible refine Kd.C_drewN ?_ _) | (with_reducible refine Kd.C_drew ?_))); (case side2 => exact (Kd.R_reads' HO220.out).2.1); (case side3 => repeat (first | exact (Kd.R_reads' HO226.out).2.2 | (with_reducible refine Kd.C_alloc ?_ _) | (with_reducible refine Kd.C_drewN ?_ _) | (with_reducible refine Kd.C_drew ?_))); (case side4 => exact (Kd.R_reads' HO226.out).2.1); rintro e w' ⟨rfl, ⟨nd, rfl⟩⟩; have CA9 := fun W (hG_ : Glob W) => selvagelaw27_num.calls t228 t234 W hG_ A9.out; try simp only [errW_none, errW_some] at CA9) | (go_at_call 9; (with_reducible refine (CA9 _ ?side1).mono ?_); (case side1 => exact Glob.below hGL belNow); rintro e w30 ⟨rfl, hb⟩; have n0_ := Aside0.mk (Kd.R_below (kdUp HO220.out) hb); have n1_ := Aside0.mk (Kd.R_below (kdUp HO226.out) hb); have n2_ := Aside0.mk (Kd.R_below (kdUp HO230.out) hb); have n3_ := Aside0.mk (below_step belNow hb); clear HO220; clear HO226; clear HO230; clear HB; have HO220 := n0_; have HO226 := n1_; have HO230 := n2_; have HB := n3_; clear n0_ n1_ n2_ n3_; (try clear hb); (try clear hb2); (try clear hk); (try clear hi)))
        go_ret
        exact ⟨eqEnd, belNow⟩
      ·have H1 : (some false) = some r := by rw [if_neg (show ¬ (some q233).isNone = true by simp)] at H; exact H
       clear H
       have H := H1
       clear H1
       try simp only [errW_none, errW_some]
       obtain rfl := Option.some.inj H
       go_enter Tryd.func12, Tryd.ntmps12
       go_wp2_with (first | ((with_reducible refine gate_dst (N := 10) rfl ?_); refine Kd.R_lit k32 _ 32 ?hg (N := 10) ?hd (xs := ([(⟨1, (⟨#[97]⟩ : ByteArray), (⟨#[98, 32, 99]⟩ : ByteArray)⟩ : S32), (⟨2, (⟨#[100]⟩ : ByteArray), (⟨#[]⟩ : ByteArray)⟩ : S32)] : List (S32))) (inner := [.int .i64 1, .string (⟨#[97]⟩ : ByteArray), .string (⟨#[98, 32, 99]⟩ : ByteArray), .int .i64 2, .string (⟨#[100]⟩ : ByteArray), .string (⟨#[]⟩ : ByteArray)]) (ok := fun _ => True) (okp := fun _ => True) ?hr ?hp (fun _ hk => hk) trivial (Below.refl _ _) (Nat.le_refl _) (by simp) ?_; (case hd => rfl); (case hg => rfl); (case hr => first | (go_simp; done) | (go_simp; rfl)); (case hp => exact (Reps.c3 (show Kd.M k32 _ _ _ (⟨1, (⟨#[97]⟩ : ByteArray), (⟨#[98, 32, 99]⟩ : ByteArray)⟩ : S32) [.int .i64 1, .string (⟨#[97]⟩ : ByteArray), .string (⟨#[98, 32, 99]⟩ : ByteArray)] from (k32_mkM _ _ _ (⟨1, (⟨#[97]⟩ : ByteArray), (⟨#[98, 32, 99]⟩ : ByteArray)⟩ : S32) )) (Reps.c3 (show Kd.M k32 _ _ _ (⟨2, (⟨#[100]⟩ : ByteArray), (⟨#[]⟩ : ByteArray)⟩ : S32) [.int .i64 2, .string (⟨#[100]⟩ : ByteArray), .string (⟨#[]⟩ : ByteArray)] from (k32_mkM _ _ _ (⟨2, (⟨#[100]⟩ : ByteArray), (⟨#[]⟩ : ByteArray)⟩ : S32) )) (Reps.none _ _)))); intro v219 w31 ho32 hb hg_ hnew_; clear hg_ hnew_; (first | rw [← Ny218.out] at ho32 | (simp only [Int.reduceToNat] at ho32; rw [← Ny218.out] at ho32)); have n0_ := Aside0.mk (Kd.R_lower ho32 (below_size belNow)); have n1_ := Aside0.mk (below_step belNow hb); clear HB; have HO220 := n0_; have HB := n1_; clear n0_ n1_; clear hb ho32; obtain ⟨Ao33, co33, eo33⟩ := Kd.R_slice HO220.out; subst eo33) | ((with_reducible refine gate_callee (f := 7) rfl ?_); refine goesL_ (some 13) rfl rfl Tryd.func7 (by kernel_rfl) rfl #[.slice Ao33 y218.length co33] rfl argsOk ?_; (with_reducible refine (journal_Encode.calls k _ _ y218 t221 none _ ?side1 ?side2 ?side3 A1.out).mono ?_); (case side1 => repeat (first | exact (Kd.R_reads' HO220.out).2.2 | (with_reducible refine Kd.C_alloc ?_ _) | (with_reducible refine Kd.C_drewN ?_ _) | (with_reducible refine Kd.C_drew ?_))); (case side2 => exact (Kd.R_reads' HO220.out).2.1); (case side3 => exact Glob.below hGL belNow); rintro e w34 ⟨rfl, hb⟩; refine ⟨_, rfl, ?_⟩; have n0_ := Aside0.mk (Kd.R_below (kdUp HO220.out) hb); have n1_ := Aside0.mk (below_step belNow hb); clear HO220; clear HB; have HO220 := n0_; have HB := n1_; clear n0_ n1_; (try clear hb); (try clear hb2); (try clear hk); (try clear hi); (try simp only [errW_none, errW_some])) | ((with_reducible refine gate_callee (f := 13) rfl ?_); refine goesL_ (some 17) rfl rfl Tryd.func13 (by kernel_rfl) rfl #[.string (⟨#[115, 101, 108, 118, 97, 103, 101, 32, 106, 111, 117, 114, 110, 97, 108, 32, 49, 10, 114, 101, 110, 97, 109, 101, 32, 97, 9, 34, 98, 32, 99, 34, 10, 114, 101, 109, 111, 118, 101, 32, 100, 10, 101, 110, 100, 10]⟩ : ByteArray)] rfl argsOk ?_; (with_reducible refine (journal_Decode.calls k (⟨#[115, 101, 108, 118, 97, 103, 101, 32, 106, 111, 117, 114, 110, 97, 108, 32, 49, 10, 114, 101, 110, 97, 109, 101, 32, 97, 9, 34, 98, 32, 99, 34, 10, 114, 101, 109, 111, 118, 101, 32, 100, 10, 101, 110, 100, 10]⟩ : ByteArray) t223 (some q233) _ ?side1 A2.out).mono ?_); (case side1 => exact Glob.below hGL belNow); rintro e w35 ⟨v225, rfl, ho0, hb⟩; refine ⟨_, rfl, ?_⟩; have n0_ := Aside0.mk (Kd.R_elder' (kdUp HO220.out) (Kd.R_base ho0) hb); have n1_ := Aside0.mk (Kd.R_lower (Kd.R_new' ho0 (Kd.R_lt (kdUp HO220.out))) (below_size belNow)); have n2_ := Aside0.mk (below_step belNow hb); clear HO220; clear HB; have HO220 := n0_; have HO226 := n1_; have HB := n2_; clear n0_ n1_ n2_; (try clear hb); (try clear hb2); (try clear hk); (try clear hi); (try clear ho0); (try simp only [errW_none, errW_some])) | ((with_reducible refine gate_callee (f := 13) rfl ?_); refine goesL_ (some 22) rfl rfl Tryd.func13 (by kernel_rfl) rfl #[.string ((⟨#[115, 101, 108, 118, 97, 103, 101, 32, 106, 111, 117, 114, 110, 97, 108, 32, 49, 10, 114, 101, 110, 97, 109, 101, 32, 97, 9, 34, 98, 32, 99, 34, 10, 114, 101, 109, 111, 118, 101, 32, 100, 10, 101, 110, 100, 10]⟩ : ByteArray).extract 0 45)] rfl argsOk ?_; (with_reducible refine (journal_Decode.calls k ((⟨#[115, 101, 108, 118, 97, 103, 101, 32, 106, 111, 117, 114, 110, 97, 108, 32, 49, 10, 114, 101, 110, 97, 109, 101, 32, 97, 9, 34, 98, 32, 99, 34, 10, 114, 101, 109, 111, 118, 101, 32, 100, 10, 101, 110, 100, 10]⟩ : ByteArray).extract 0 45) t227 t228 _ ?side1 A5.out).mono ?_); (case side1 => exact Glob.below hGL belNow); rintro e w36 ⟨v229, rfl, ho0, hb⟩; refine ⟨_, rfl, ?_⟩; have n0_ := Aside0.mk (Kd.R_elder' (kdUp HO220.out) (Kd.R_base ho0) hb); have n1_ := Aside0.mk (Kd.R_elder' (kdUp HO226.out) (Kd.R_base ho0) hb); have n2_ := Aside0.mk (Kd.R_lower (Kd.R_new' (Kd.R_new' ho0 (Kd.R_lt (kdUp HO220.out))) (Kd.R_lt (kdUp HO226.out))) (below_size belNow)); have n3_ := Aside0.mk (below_step belNow hb); clear HO220; clear HO226; clear HB; have HO220 := n0_; have HO226 := n1_; have HO230 := n2_; have HB := n3_; clear n0_ n1_ n2_ n3_; (try clear hb); (try clear hb2); (try clear hk); (try clear hi); (try clear ho0); (try simp only [errW_none, errW_some]); obtain ⟨Ao37, co37, eo37⟩ := Kd.R_slice HO226.out; subst eo37) | (go_at_call 15; (with_reducible refine (selvagelaw27_same.calls k _ _ y218 _ _ t223 true _ ?side1 ?side2 ?side3 ?side4 A7.out).mono ?_); (case side1 => repeat (first | exact (Kd.R_reads' HO220.out).2.2 | (with_reducible refine Kd.C_alloc ?_ _) | (with_reducible refine Kd.C_drewN ?_ _) | (with_reducible refine Kd.C_drew ?_))); (case side2 => exact (Kd.R_reads' HO220.out).2.1); (case side3 => repeat (first | exact (Kd.R_reads' HO226.out).2.2 | (with_reducible refine Kd.C_alloc ?_ _) | (with_reducible refine Kd.C_drewN ?_ _) | (with_reducible refine Kd.C_drew ?_))); (case side4 => exact (Kd.R_reads' HO226.out).2.1); rintro e w' ⟨rfl, ⟨nd, rfl⟩⟩))
       go_ret
       exact ⟨eqEnd, belNow⟩
     ·replace c8 := Bool.eq_false_iff.mpr c8
      subst c8
      have H1 : (some false) = some r := by rw [if_neg (show ¬ (false = true) by decide)] at H; exact H
      clear H
      have H := H1
      clear H1
      obtain rfl := Option.some.inj H
      go_enter Tryd.func12, Tryd.ntmps12
      go_wp2_with (first | ((with_reducible refine gate_dst (N := 10) rfl ?_); refine Kd.R_lit k32 _ 32 ?hg (N := 10) ?hd (xs := ([(⟨1, (⟨#[97]⟩ : ByteArray), (⟨#[98, 32, 99]⟩ : ByteArray)⟩ : S32), (⟨2, (⟨#[100]⟩ : ByteArray), (⟨#[]⟩ : ByteArray)⟩ : S32)] : List (S32))) (inner := [.int .i64 1, .string (⟨#[97]⟩ : ByteArray), .string (⟨#[98, 32, 99]⟩ : ByteArray), .int .i64 2, .string (⟨#[100]⟩ : ByteArray), .string (⟨#[]⟩ : ByteArray)]) (ok := fun _ => True) (okp := fun _ => True) ?hr ?hp (fun _ hk => hk) trivial (Below.refl _ _) (Nat.le_refl _) (by simp) ?_; (case hd => rfl); (case hg => rfl); (case hr => first | (go_simp; done) | (go_simp; rfl)); (case hp => exact (Reps.c3 (show Kd.M k32 _ _ _ (⟨1, (⟨#[97]⟩ : ByteArray), (⟨#[98, 32, 99]⟩ : ByteArray)⟩ : S32) [.int .i64 1, .string (⟨#[97]⟩ : ByteArray), .string (⟨#[98, 32, 99]⟩ : ByteArray)] from (k32_mkM _ _ _ (⟨1, (⟨#[97]⟩ : ByteArray), (⟨#[98, 32, 99]⟩ : ByteArray)⟩ : S32) )) (Reps.c3 (show Kd.M k32 _ _ _ (⟨2, (⟨#[100]⟩ : ByteArray), (⟨#[]⟩ : ByteArray)⟩ : S32) [.int .i64 2, .string (⟨#[100]⟩ : ByteArray), .string (⟨#[]⟩ : ByteArray)] from (k32_mkM _ _ _ (⟨2, (⟨#[100]⟩ : ByteArray), (⟨#[]⟩ : ByteArray)⟩ : S32) )) (Reps.none _ _)))); intro v219 w38 ho39 hb hg_ hnew_; clear hg_ hnew_; (first | rw [← Ny218.out] at ho39 | (simp only [Int.reduceToNat] at ho39; rw [← Ny218.out] at ho39)); have n0_ := Aside0.mk (Kd.R_lower ho39 (below_size belNow)); have n1_ := Aside0.mk (below_step belNow hb); clear HB; have HO220 := n0_; have HB := n1_; clear n0_ n1_; clear hb ho39; obtain ⟨Ao40, co40, eo40⟩ := Kd.R_slice HO220.out; subst eo40) | ((with_reducible refine gate_callee (f := 7) rfl ?_); refine goesL_ (some 13) rfl rfl Tryd.func7 (by kernel_rfl) rfl #[.slice Ao40 y218.length co40] rfl argsOk ?_; (with_reducible refine (journal_Encode.calls k _ _ y218 t221 none _ ?side1 ?side2 ?side3 A1.out).mono ?_); (case side1 => repeat (first | exact (Kd.R_reads' HO220.out).2.2 | (with_reducible refine Kd.C_alloc ?_ _) | (with_reducible refine Kd.C_drewN ?_ _) | (with_reducible refine Kd.C_drew ?_))); (case side2 => exact (Kd.R_reads' HO220.out).2.1); (case side3 => exact Glob.below hGL belNow); rintro e w41 ⟨rfl, hb⟩; refine ⟨_, rfl, ?_⟩; have n0_ := Aside0.mk (Kd.R_below (kdUp HO220.out) hb); have n1_ := Aside0.mk (below_step belNow hb); clear HO220; clear HB; have HO220 := n0_; have HB := n1_; clear n0_ n1_; (try clear hb); (try clear hb2); (try clear hk); (try clear hi); (try simp only [errW_none, errW_some])) | ((with_reducible refine gate_callee (f := 13) rfl ?_); refine goesL_ (some 17) rfl rfl Tryd.func13 (by kernel_rfl) rfl #[.string (⟨#[115, 101, 108, 118, 97, 103, 101, 32, 106, 111, 117, 114, 110, 97, 108, 32, 49, 10, 114, 101, 110, 97, 109, 101, 32, 97, 9, 34, 98, 32, 99, 34, 10, 114, 101, 109, 111, 118, 101, 32, 100, 10, 101, 110, 100, 10]⟩ : ByteArray)] rfl argsOk ?_; (with_reducible refine (journal_Decode.calls k (⟨#[115, 101, 108, 118, 97, 103, 101, 32, 106, 111, 117, 114, 110, 97, 108, 32, 49, 10, 114, 101, 110, 97, 109, 101, 32, 97, 9, 34, 98, 32, 99, 34, 10, 114, 101, 109, 111, 118, 101, 32, 100, 10, 101, 110, 100, 10]⟩ : ByteArray) t223 t224 _ ?side1 A2.out).mono ?_); (case side1 => exact Glob.below hGL belNow); rintro e w42 ⟨v225, rfl, ho0, hb⟩; refine ⟨_, rfl, ?_⟩; have n0_ := Aside0.mk (Kd.R_elder' (kdUp HO220.out) (Kd.R_base ho0) hb); have n1_ := Aside0.mk (Kd.R_lower (Kd.R_new' ho0 (Kd.R_lt (kdUp HO220.out))) (below_size belNow)); have n2_ := Aside0.mk (below_step belNow hb); clear HO220; clear HB; have HO220 := n0_; have HO226 := n1_; have HB := n2_; clear n0_ n1_ n2_; (try clear hb); (try clear hb2); (try clear hk); (try clear hi); (try clear ho0); (try simp only [errW_none, errW_some])) | ((with_reducible refine gate_callee (f := 13) rfl ?_); refine goesL_ (some 22) rfl rfl Tryd.func13 (by kernel_rfl) rfl #[.string ((⟨#[115, 101, 108, 118, 97, 103, 101, 32, 106, 111, 117, 114, 110, 97, 108, 32, 49, 10, 114, 101, 110, 97, 109, 101, 32, 97, 9, 34, 98, 32, 99, 34, 10, 114, 101, 109, 111, 118, 101, 32, 100, 10, 101, 110, 100, 10]⟩ : ByteArray).extract 0 45)] rfl argsOk ?_; (with_reducible refine (journal_Decode.calls k ((⟨#[115, 101, 108, 118, 97, 103, 101, 32, 106, 111, 117, 114, 110, 97, 108, 32, 49, 10, 114, 101, 110, 97, 109, 101, 32, 97, 9, 34, 98, 32, 99, 34, 10, 114, 101, 109, 111, 118, 101, 32, 100, 10, 101, 110, 100, 10]⟩ : ByteArray).extract 0 45) t227 t228 _ ?side1 A5.out).mono ?_); (case side1 => exact Glob.below hGL belNow); rintro e w43 ⟨v229, rfl, ho0, hb⟩; refine ⟨_, rfl, ?_⟩; have n0_ := Aside0.mk (Kd.R_elder' (kdUp HO220.out) (Kd.R_base ho0) hb); have n1_ := Aside0.mk (Kd.R_elder' (kdUp HO226.out) (Kd.R_base ho0) hb); have n2_ := Aside0.mk (Kd.R_lower (Kd.R_new' (Kd.R_new' ho0 (Kd.R_lt (kdUp HO220.out))) (Kd.R_lt (kdUp HO226.out))) (below_size belNow)); have n3_ := Aside0.mk (below_step belNow hb); clear HO220; clear HO226; clear HB; have HO220 := n0_; have HO226 := n1_; have HO230 := n2_; have HB := n3_; clear n0_ n1_ n2_ n3_; (try clear hb); (try clear hb2); (try clear hk); (try clear hi); (try clear ho0); (try simp only [errW_none, errW_some]); obtain ⟨Ao44, co44, eo44⟩ := Kd.R_slice HO226.out; subst eo44) | (go_at_call 15; (with_reducible refine (selvagelaw27_same.calls k _ _ y218 _ _ t223 false _ ?side1 ?side2 ?side3 ?side4 A7.out).mono ?_); (case side1 => repeat (first | exact (Kd.R_reads' HO220.out).2.2 | (with_reducible refine Kd.C_alloc ?_ _) | (with_reducible refine Kd.C_drewN ?_ _) | (with_reducible refine Kd.C_drew ?_))); (case side2 => exact (Kd.R_reads' HO220.out).2.1); (case side3 => repeat (first | exact (Kd.R_reads' HO226.out).2.2 | (with_reducible refine Kd.C_alloc ?_ _) | (with_reducible refine Kd.C_drewN ?_ _) | (with_reducible refine Kd.C_drew ?_))); (case side4 => exact (Kd.R_reads' HO226.out).2.1); rintro e w' ⟨rfl, ⟨nd, rfl⟩⟩))
      go_ret
      exact ⟨eqEnd, belNow⟩
    ·have H1 : (some false) = some r := by rw [if_neg (show ¬ (some q231).isNone = true by simp)] at H; exact H
     clear H
     have H := H1
     clear H1
     try simp only [errW_none, errW_some]
     obtain rfl := Option.some.inj H
     go_enter Tryd.func12, Tryd.ntmps12
     go_wp2_with (first | ((with_reducible refine gate_dst (N := 10) rfl ?_); refine Kd.R_lit k32 _ 32 ?hg (N := 10) ?hd (xs := ([(⟨1, (⟨#[97]⟩ : ByteArray), (⟨#[98, 32, 99]⟩ : ByteArray)⟩ : S32), (⟨2, (⟨#[100]⟩ : ByteArray), (⟨#[]⟩ : ByteArray)⟩ : S32)] : List (S32))) (inner := [.int .i64 1, .string (⟨#[97]⟩ : ByteArray), .string (⟨#[98, 32, 99]⟩ : ByteArray), .int .i64 2, .string (⟨#[100]⟩ : ByteArray), .string (⟨#[]⟩ : ByteArray)]) (ok := fun _ => True) (okp := fun _ => True) ?hr ?hp (fun _ hk => hk) trivial (Below.refl _ _) (Nat.le_refl _) (by simp) ?_; (case hd => rfl); (case hg => rfl); (case hr => first | (go_simp; done) | (go_simp; rfl)); (case hp => exact (Reps.c3 (show Kd.M k32 _ _ _ (⟨1, (⟨#[97]⟩ : ByteArray), (⟨#[98, 32, 99]⟩ : ByteArray)⟩ : S32) [.int .i64 1, .string (⟨#[97]⟩ : ByteArray), .string (⟨#[98, 32, 99]⟩ : ByteArray)] from (k32_mkM _ _ _ (⟨1, (⟨#[97]⟩ : ByteArray), (⟨#[98, 32, 99]⟩ : ByteArray)⟩ : S32) )) (Reps.c3 (show Kd.M k32 _ _ _ (⟨2, (⟨#[100]⟩ : ByteArray), (⟨#[]⟩ : ByteArray)⟩ : S32) [.int .i64 2, .string (⟨#[100]⟩ : ByteArray), .string (⟨#[]⟩ : ByteArray)] from (k32_mkM _ _ _ (⟨2, (⟨#[100]⟩ : ByteArray), (⟨#[]⟩ : ByteArray)⟩ : S32) )) (Reps.none _ _)))); intro v219 w45 ho46 hb hg_ hnew_; clear hg_ hnew_; (first | rw [← Ny218.out] at ho46 | (simp only [Int.reduceToNat] at ho46; rw [← Ny218.out] at ho46)); have n0_ := Aside0.mk (Kd.R_lower ho46 (below_size belNow)); have n1_ := Aside0.mk (below_step belNow hb); clear HB; have HO220 := n0_; have HB := n1_; clear n0_ n1_; clear hb ho46; obtain ⟨Ao47, co47, eo47⟩ := Kd.R_slice HO220.out; subst eo47) | ((with_reducible refine gate_callee (f := 7) rfl ?_); refine goesL_ (some 13) rfl rfl Tryd.func7 (by kernel_rfl) rfl #[.slice Ao47 y218.length co47] rfl argsOk ?_; (with_reducible refine (journal_Encode.calls k _ _ y218 t221 (some q231) _ ?side1 ?side2 ?side3 A1.out).mono ?_); (case side1 => repeat (first | exact (Kd.R_reads' HO220.out).2.2 | (with_reducible refine Kd.C_alloc ?_ _) | (with_reducible refine Kd.C_drewN ?_ _) | (with_reducible refine Kd.C_drew ?_))); (case side2 => exact (Kd.R_reads' HO220.out).2.1); (case side3 => exact Glob.below hGL belNow); rintro e w48 ⟨rfl, hb⟩; refine ⟨_, rfl, ?_⟩; have n0_ := Aside0.mk (Kd.R_below (kdUp HO220.out) hb); have n1_ := Aside0.mk (below_step belNow hb); clear HO220; clear HB; have HO220 := n0_; have HB := n1_; clear n0_ n1_; (try clear hb); (try clear hb2); (try clear hk); (try clear hi); (try simp only [errW_none, errW_some])) | ((with_reducible refine gate_callee (f := 13) rfl ?_); refine goesL_ (some 17) rfl rfl Tryd.func13 (by kernel_rfl) rfl #[.string (⟨#[115, 101, 108, 118, 97, 103, 101, 32, 106, 111, 117, 114, 110, 97, 108, 32, 49, 10, 114, 101, 110, 97, 109, 101, 32, 97, 9, 34, 98, 32, 99, 34, 10, 114, 101, 109, 111, 118, 101, 32, 100, 10, 101, 110, 100, 10]⟩ : ByteArray)] rfl argsOk ?_; (with_reducible refine (journal_Decode.calls k (⟨#[115, 101, 108, 118, 97, 103, 101, 32, 106, 111, 117, 114, 110, 97, 108, 32, 49, 10, 114, 101, 110, 97, 109, 101, 32, 97, 9, 34, 98, 32, 99, 34, 10, 114, 101, 109, 111, 118, 101, 32, 100, 10, 101, 110, 100, 10]⟩ : ByteArray) t223 t224 _ ?side1 A2.out).mono ?_); (case side1 => exact Glob.below hGL belNow); rintro e w49 ⟨v225, rfl, ho0, hb⟩; refine ⟨_, rfl, ?_⟩; have n0_ := Aside0.mk (Kd.R_elder' (kdUp HO220.out) (Kd.R_base ho0) hb); have n1_ := Aside0.mk (Kd.R_lower (Kd.R_new' ho0 (Kd.R_lt (kdUp HO220.out))) (below_size belNow)); have n2_ := Aside0.mk (below_step belNow hb); clear HO220; clear HB; have HO220 := n0_; have HO226 := n1_; have HB := n2_; clear n0_ n1_ n2_; (try clear hb); (try clear hb2); (try clear hk); (try clear hi); (try clear ho0); (try simp only [errW_none, errW_some])) | ((with_reducible refine gate_callee (f := 13) rfl ?_); refine goesL_ (some 22) rfl rfl Tryd.func13 (by kernel_rfl) rfl #[.string ((⟨#[115, 101, 108, 118, 97, 103, 101, 32, 106, 111, 117, 114, 110, 97, 108, 32, 49, 10, 114, 101, 110, 97, 109, 101, 32, 97, 9, 34, 98, 32, 99, 34, 10, 114, 101, 109, 111, 118, 101, 32, 100, 10, 101, 110, 100, 10]⟩ : ByteArray).extract 0 45)] rfl argsOk ?_; (with_reducible refine (journal_Decode.calls k ((⟨#[115, 101, 108, 118, 97, 103, 101, 32, 106, 111, 117, 114, 110, 97, 108, 32, 49, 10, 114, 101, 110, 97, 109, 101, 32, 97, 9, 34, 98, 32, 99, 34, 10, 114, 101, 109, 111, 118, 101, 32, 100, 10, 101, 110, 100, 10]⟩ : ByteArray).extract 0 45) t227 t228 _ ?side1 A5.out).mono ?_); (case side1 => exact Glob.below hGL belNow); rintro e w50 ⟨v229, rfl, ho0, hb⟩; refine ⟨_, rfl, ?_⟩; have n0_ := Aside0.mk (Kd.R_elder' (kdUp HO220.out) (Kd.R_base ho0) hb); have n1_ := Aside0.mk (Kd.R_elder' (kdUp HO226.out) (Kd.R_base ho0) hb); have n2_ := Aside0.mk (Kd.R_lower (Kd.R_new' (Kd.R_new' ho0 (Kd.R_lt (kdUp HO220.out))) (Kd.R_lt (kdUp HO226.out))) (below_size belNow)); have n3_ := Aside0.mk (below_step belNow hb); clear HO220; clear HO226; clear HB; have HO220 := n0_; have HO226 := n1_; have HO230 := n2_; have HB := n3_; clear n0_ n1_ n2_ n3_; (try clear hb); (try clear hb2); (try clear hk); (try clear hi); (try clear ho0); (try simp only [errW_none, errW_some])))
     go_ret
     exact ⟨eqEnd, belNow⟩
   ·rw [if_neg c6] at H
    have c6b0 : (t221.toList == ([115, 101, 108, 118, 97, 103, 101, 32, 106, 111, 117, 114, 110, 97, 108, 32, 49, 10, 114, 101, 110, 97, 109, 101, 32, 97, 9, 34, 98, 32, 99, 34, 10, 114, 101, 109, 111, 118, 101, 32, 100, 10, 101, 110, 100, 10] : List UInt8)) = false := beq_eq_false_iff_ne.mpr c6
    have c6b1 : (t221.toList != ([115, 101, 108, 118, 97, 103, 101, 32, 106, 111, 117, 114, 110, 97, 108, 32, 49, 10, 114, 101, 110, 97, 109, 101, 32, 97, 9, 34, 98, 32, 99, 34, 10, 114, 101, 109, 111, 118, 101, 32, 100, 10, 101, 110, 100, 10] : List UInt8)) = true := bne_iff_ne.mpr c6
    obtain rfl := Option.some.inj H
    go_enter Tryd.func12, Tryd.ntmps12
    go_wp2_with (first | ((with_reducible refine gate_dst (N := 10) rfl ?_); refine Kd.R_lit k32 _ 32 ?hg (N := 10) ?hd (xs := ([(⟨1, (⟨#[97]⟩ : ByteArray), (⟨#[98, 32, 99]⟩ : ByteArray)⟩ : S32), (⟨2, (⟨#[100]⟩ : ByteArray), (⟨#[]⟩ : ByteArray)⟩ : S32)] : List (S32))) (inner := [.int .i64 1, .string (⟨#[97]⟩ : ByteArray), .string (⟨#[98, 32, 99]⟩ : ByteArray), .int .i64 2, .string (⟨#[100]⟩ : ByteArray), .string (⟨#[]⟩ : ByteArray)]) (ok := fun _ => True) (okp := fun _ => True) ?hr ?hp (fun _ hk => hk) trivial (Below.refl _ _) (Nat.le_refl _) (by simp) ?_; (case hd => rfl); (case hg => rfl); (case hr => first | (go_simp; done) | (go_simp; rfl)); (case hp => exact (Reps.c3 (show Kd.M k32 _ _ _ (⟨1, (⟨#[97]⟩ : ByteArray), (⟨#[98, 32, 99]⟩ : ByteArray)⟩ : S32) [.int .i64 1, .string (⟨#[97]⟩ : ByteArray), .string (⟨#[98, 32, 99]⟩ : ByteArray)] from (k32_mkM _ _ _ (⟨1, (⟨#[97]⟩ : ByteArray), (⟨#[98, 32, 99]⟩ : ByteArray)⟩ : S32) )) (Reps.c3 (show Kd.M k32 _ _ _ (⟨2, (⟨#[100]⟩ : ByteArray), (⟨#[]⟩ : ByteArray)⟩ : S32) [.int .i64 2, .string (⟨#[100]⟩ : ByteArray), .string (⟨#[]⟩ : ByteArray)] from (k32_mkM _ _ _ (⟨2, (⟨#[100]⟩ : ByteArray), (⟨#[]⟩ : ByteArray)⟩ : S32) )) (Reps.none _ _)))); intro v219 w51 ho52 hb hg_ hnew_; clear hg_ hnew_; (first | rw [← Ny218.out] at ho52 | (simp only [Int.reduceToNat] at ho52; rw [← Ny218.out] at ho52)); have n0_ := Aside0.mk (Kd.R_lower ho52 (below_size belNow)); have n1_ := Aside0.mk (below_step belNow hb); clear HB; have HO220 := n0_; have HB := n1_; clear n0_ n1_; clear hb ho52; obtain ⟨Ao53, co53, eo53⟩ := Kd.R_slice HO220.out; subst eo53) | ((with_reducible refine gate_callee (f := 7) rfl ?_); refine goesL_ (some 13) rfl rfl Tryd.func7 (by kernel_rfl) rfl #[.slice Ao53 y218.length co53] rfl argsOk ?_; (with_reducible refine (journal_Encode.calls k _ _ y218 t221 t222 _ ?side1 ?side2 ?side3 A1.out).mono ?_); (case side1 => repeat (first | exact (Kd.R_reads' HO220.out).2.2 | (with_reducible refine Kd.C_alloc ?_ _) | (with_reducible refine Kd.C_drewN ?_ _) | (with_reducible refine Kd.C_drew ?_))); (case side2 => exact (Kd.R_reads' HO220.out).2.1); (case side3 => exact Glob.below hGL belNow); rintro e w54 ⟨rfl, hb⟩; refine ⟨_, rfl, ?_⟩; have n0_ := Aside0.mk (Kd.R_below (kdUp HO220.out) hb); have n1_ := Aside0.mk (below_step belNow hb); clear HO220; clear HB; have HO220 := n0_; have HB := n1_; clear n0_ n1_; (try clear hb); (try clear hb2); (try clear hk); (try clear hi); (try simp only [errW_none, errW_some])) | ((with_reducible refine gate_callee (f := 13) rfl ?_); refine goesL_ (some 17) rfl rfl Tryd.func13 (by kernel_rfl) rfl #[.string (⟨#[115, 101, 108, 118, 97, 103, 101, 32, 106, 111, 117, 114, 110, 97, 108, 32, 49, 10, 114, 101, 110, 97, 109, 101, 32, 97, 9, 34, 98, 32, 99, 34, 10, 114, 101, 109, 111, 118, 101, 32, 100, 10, 101, 110, 100, 10]⟩ : ByteArray)] rfl argsOk ?_; (with_reducible refine (journal_Decode.calls k (⟨#[115, 101, 108, 118, 97, 103, 101, 32, 106, 111, 117, 114, 110, 97, 108, 32, 49, 10, 114, 101, 110, 97, 109, 101, 32, 97, 9, 34, 98, 32, 99, 34, 10, 114, 101, 109, 111, 118, 101, 32, 100, 10, 101, 110, 100, 10]⟩ : ByteArray) t223 t224 _ ?side1 A2.out).mono ?_); (case side1 => exact Glob.below hGL belNow); rintro e w55 ⟨v225, rfl, ho0, hb⟩; refine ⟨_, rfl, ?_⟩; have n0_ := Aside0.mk (Kd.R_elder' (kdUp HO220.out) (Kd.R_base ho0) hb); have n1_ := Aside0.mk (Kd.R_lower (Kd.R_new' ho0 (Kd.R_lt (kdUp HO220.out))) (below_size belNow)); have n2_ := Aside0.mk (below_step belNow hb); clear HO220; clear HB; have HO220 := n0_; have HO226 := n1_; have HB := n2_; clear n0_ n1_ n2_; (try clear hb); (try clear hb2); (try clear hk); (try clear hi); (try clear ho0); (try simp only [errW_none, errW_some])) | ((with_reducible refine gate_callee (f := 13) rfl ?_); refine goesL_ (some 22) rfl rfl Tryd.func13 (by kernel_rfl) rfl #[.string ((⟨#[115, 101, 108, 118, 97, 103, 101, 32, 106, 111, 117, 114, 110, 97, 108, 32, 49, 10, 114, 101, 110, 97, 109, 101, 32, 97, 9, 34, 98, 32, 99, 34, 10, 114, 101, 109, 111, 118, 101, 32, 100, 10, 101, 110, 100, 10]⟩ : ByteArray).extract 0 45)] rfl argsOk ?_; (with_reducible refine (journal_Decode.calls k ((⟨#[115, 101, 108, 118, 97, 103, 101, 32, 106, 111, 117, 114, 110, 97, 108, 32, 49, 10, 114, 101, 110, 97, 109, 101, 32, 97, 9, 34, 98, 32, 99, 34, 10, 114, 101, 109, 111, 118, 101, 32, 100, 10, 101, 110, 100, 10]⟩ : ByteArray).extract 0 45) t227 t228 _ ?side1 A5.out).mono ?_); (case side1 => exact Glob.below hGL belNow); rintro e w56 ⟨v229, rfl, ho0, hb⟩; refine ⟨_, rfl, ?_⟩; have n0_ := Aside0.mk (Kd.R_elder' (kdUp HO220.out) (Kd.R_base ho0) hb); have n1_ := Aside0.mk (Kd.R_elder' (kdUp HO226.out) (Kd.R_base ho0) hb); have n2_ := Aside0.mk (Kd.R_lower (Kd.R_new' (Kd.R_new' ho0 (Kd.R_lt (kdUp HO220.out))) (Kd.R_lt (kdUp HO226.out))) (below_size belNow)); have n3_ := Aside0.mk (below_step belNow hb); clear HO220; clear HO226; clear HB; have HO220 := n0_; have HO226 := n1_; have HO230 := n2_; have HB := n3_; clear n0_ n1_ n2_ n3_; (try clear hb); (try clear hb2); (try clear hk); (try clear hi); (try clear ho0); (try simp only [errW_none, errW_some])))
    go_ret
    exact ⟨eqEnd, belNow⟩
  ·rw [if_neg c4] at H
   exact absurd H (by simp)
 ·rw [if_neg c3] at H
  exact absurd H (by simp)
end Go.Proofs.YtfempodohmhhlaaDoor.Pp
