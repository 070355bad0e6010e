-- Printed by this session's pp.py over the kit's printer, out of the translation. Lean checks it.
import Derived.Test.YtpfhgaaphaalgaaDoorESq
import Derived.Test.YtpfhgaaphaalgaaDoorPp0
import Derived.Test.YtpfhgaaphaalgaaDoorPp1
import Derived.Test.YtpfhgaaphaalgaaDoorPp2
import Derived.Test.YtpfhgaaphaalgaaDoorEIds
namespace Go.Proofs.YtpfhgaaphaalgaaDoor.Pp
open Go.RowKit Go.Proofs.YtpfhgaaphaalgaaDoor.Ext Go.Proofs.YtpfhgaaphaalgaaDoorW.PrintWords Go.Proofs.YtpfhgaaphaalgaaDoorW.PrintLast Go.Proofs.YtpfhgaaphaalgaaDoorW.PrintMore
attribute [local go_sem] max2_int min2_int max_two min_two max_three min_three max_four min_four   -- for this text's walks alone
set_option linter.unusedVariables false
set_option linter.unusedSimpArgs false
def intern_Blank.f (a0 : ByteArray) : Option (Bool) := (lines_Bare.f a0).bind fun t153 => ((strings_Trim.f t153 (⟨#[9, 11, 12, 13, 32]⟩ : ByteArray)).bind fun t154 => (some (t154.toList == ([] : List UInt8))))
set_option maxHeartbeats 8000000 in
set_option maxRecDepth 100000 in
theorem intern_Blank.calls (a0 : ByteArray) (r : Bool) (w : World) (h : intern_Blank.f a0 = some r) :
  Calls Tryd.prog 10 #[.string a0] w fun e w' => e = .returned (.bool r) ∧ Below w.heap.size w w' := by
 have HB := Aside0.mk (Below.refl w.heap.size w)
 have H : ((lines_Bare.f a0).bind fun t153 => ((strings_Trim.f t153 (⟨#[9, 11, 12, 13, 32]⟩ : ByteArray)).bind fun t154 => (some (t154.toList == ([] : List UInt8))))) = some r := h
 clear h
 replace H := Option.bind_eq_some_iff.mp H
 obtain ⟨t153, A20, H⟩ := H
 replace H : ((strings_Trim.f t153 (⟨#[9, 11, 12, 13, 32]⟩ : ByteArray)).bind fun t154 => (some (t154.toList == ([] : List UInt8)))) = some r := H
 have A2 := Aside0.mk A20
 clear A20
 replace H := Option.bind_eq_some_iff.mp H
 obtain ⟨t154, A30, H⟩ := H
 replace H : (some (t154.toList == ([] : List UInt8))) = some r := H
 have A3 := Aside0.mk A30
 clear A30
 obtain rfl := Option.some.inj H
 go_enter Tryd.func10, Tryd.ntmps10
 go_wp2_with (first | ((with_reducible refine gate_callee (f := 18) rfl ?_); refine goesL_ (some 4) rfl rfl Tryd.func18 (by kernel_rfl) rfl #[.string a0] rfl argsOk ?_; (with_reducible refine (lines_Bare.calls a0 t153 _ A2.out).mono ?_); rintro e w' ⟨rfl, ⟨nd, rfl⟩⟩; refine ⟨_, rfl, ?_⟩) | ((with_reducible refine gate_callee (f := 26) rfl ?_); refine goesL_ (some 5) rfl rfl Tryd.func26 (by kernel_rfl) rfl #[.string t153, .string (⟨#[9, 11, 12, 13, 32]⟩ : ByteArray)] rfl argsOk ?_; (with_reducible refine (strings_Trim.calls t153 (⟨#[9, 11, 12, 13, 32]⟩ : ByteArray) t154 _ A3.out).mono ?_); rintro e w4 ⟨rfl, hb⟩; refine ⟨_, rfl, ?_⟩; have n0_ := Aside0.mk (below_step belNow hb); clear HB; have HB := n0_; clear n0_; (try clear hb); (try clear hb2); (try clear hk); (try clear hi)))
 go_ret
 exact ⟨eqEnd, belNow⟩
def selvageref05_Blank.f (k : Nat) (a0 : ByteArray) : Option (Bool) := (selvageref01_Bare.f a0).bind fun t155 => ((selvageref05_tail.f k t155).bind fun t156 => (some (t156.toList == ([] : List UInt8))))
set_option maxHeartbeats 8000000 in
set_option maxRecDepth 100000 in
theorem selvageref05_Blank.calls (k : Nat) (a0 : ByteArray) (r : Bool) (w : World) (h : selvageref05_Blank.f k a0 = some r) :
  Calls Tryd.prog 11 #[.string a0] w fun e w' => e = .returned (.bool r) ∧ Drawn0 w w' := by
 have H : ((selvageref01_Bare.f a0).bind fun t155 => ((selvageref05_tail.f k t155).bind fun t156 => (some (t156.toList == ([] : List UInt8))))) = some r := h
 clear h
 replace H := Option.bind_eq_some_iff.mp H
 obtain ⟨t155, A20, H⟩ := H
 replace H : ((selvageref05_tail.f k t155).bind fun t156 => (some (t156.toList == ([] : List UInt8)))) = some r := H
 have A2 := Aside0.mk A20
 clear A20
 replace H := Option.bind_eq_some_iff.mp H
 obtain ⟨t156, A30, H⟩ := H
 replace H : (some (t156.toList == ([] : List UInt8))) = some r := H
 have A3 := Aside0.mk A30
 clear A30
 obtain rfl := Option.some.inj H
 go_enter Tryd.func11, Tryd.ntmps11
 go_wp2_with (first | ((with_reducible refine gate_callee (f := 23) rfl ?_); refine goesL_ (some 4) rfl rfl Tryd.func23 (by kernel_rfl) rfl #[.string a0] rfl argsOk ?_; (with_reducible refine (selvageref01_Bare.calls a0 t155 _ A2.out).mono ?_); rintro e w' ⟨rfl, ⟨nd, rfl⟩⟩; refine ⟨_, rfl, ?_⟩) | ((with_reducible refine gate_callee (f := 25) rfl ?_); refine goesL_ (some 5) rfl rfl Tryd.func25 (by kernel_rfl) rfl #[.string t155] rfl argsOk ?_; (with_reducible refine (selvageref05_tail.calls k t155 t156 _ A3.out).mono ?_); rintro e w' ⟨rfl, ⟨nd, rfl⟩⟩; refine ⟨_, rfl, ?_⟩))
 go_ret
 exact ⟨eqFin, drawnNow⟩
def selvagelaw05_same.l0 : Nat → List Int → List Int → Int → Option (Bool)
 | 0, _, _, _ => none
 | k + 1, x0, x1, x5 => if x5 < (x0.length : Int) then (if 0 ≤ x5 then (if x5 < (x1.length : Int) then (if (rd x0 x5) = (rd x1 x5) then (selvagelaw05_same.l0 k x0 x1 (wrap64 (x5 + 1))) else (some false)) else (none)) else (none)) else (some true)
def selvagelaw05_same.f (k : Nat) (l0 : List Int) (l1 : List Int) : Option (Bool) := if (l0.length : Int) = (l1.length : Int) then (selvagelaw05_same.l0 k l0 l1 0) else (some false)
theorem selvagelaw05_same.mono_l : ∀ k, (∀ y0 y1 y2, LeO (selvagelaw05_same.l0 k y0 y1 y2) (selvagelaw05_same.l0 (k + 1) y0 y1 y2))
 | 0 => fun _ _ _ r h => by simp [selvagelaw05_same.l0] at h
 | k + 1 => by
  have ih0 := selvagelaw05_same.mono_l k
  ·intro y0 y1 y2
   unfold selvagelaw05_same.l0
   repeat' first
   | (with_reducible exact ih0 _ _ _)
   | (with_reducible exact LeO.refl _)
   | (with_reducible exact LeO.none _)
   | (with_reducible refine LeO.ite ?_ ?_)
   | (with_reducible refine LeO.bind ?_ (fun _ => ?_))
   | exact ih0 _ _ _
   | exact LeO.none _
   | refine LeO.ite ?_ ?_
   | refine LeO.bind ?_ (fun _ => ?_)
theorem selvagelaw05_same.mono : ∀ a0 a1 k, LeO (selvagelaw05_same.f k a0 a1) (selvagelaw05_same.f (k + 1) a0 a1) := by
 intro a0 a1 k
 have ih0 := selvagelaw05_same.mono_l k
 unfold selvagelaw05_same.f
 repeat' first
   | (with_reducible exact ih0 _ _ _)
   | (with_reducible exact LeO.refl _)
   | (with_reducible exact LeO.none _)
   | (with_reducible refine LeO.ite ?_ ?_)
   | (with_reducible refine LeO.bind ?_ (fun _ => ?_))
   | exact ih0 _ _ _
   | exact LeO.none _
   | refine LeO.ite ?_ ?_
   | refine LeO.bind ?_ (fun _ => ?_)
set_option maxHeartbeats 8000000 in
set_option maxRecDepth 100000 in
theorem selvagelaw05_same.calls (k : Nat) (A0 : Option Addr) (c0 : Nat) (l0 : List Int) (A1 : Option Addr) (c1 : Nat) (l1 : List Int) (r : Bool) (w : World) (hr0 : Kd.C (Kd.int .i64) w A0 l0.length l0) (hc0 : l0.length ≤ c0) (hr1 : Kd.C (Kd.int .i64) w A1 l1.length l1) (hc1 : l1.length ≤ c1) (h : selvagelaw05_same.f k l0 l1 = some r) :
  Calls Tryd.prog 16 #[.slice A0 l0.length c0, .slice A1 l1.length c1] w fun e w' => e = .returned (.bool r) ∧ Drawn0 w w' := by
 have HR0 := Aside0.mk hr0
 have HC0 := Aside0.mk hc0
 clear hr0 hc0
 have HR1 := Aside0.mk hr1
 have HC1 := Aside0.mk hc1
 clear hr1 hc1
 have H : (if (l0.length : Int) = (l1.length : Int) then (selvagelaw05_same.l0 k l0 l1 0) else (some false)) = some r := h
 clear h
 by_cases c3 : (l0.length : Int) = (l1.length : Int)
 ·rw [if_pos c3] at H
  have c3b0 : ((l0.length : Int) == (l1.length : Int)) = true := beq_iff_eq.mpr c3
  have c3b1 : ((l0.length : Int) != (l1.length : Int)) = false := bne_eq_false_iff_eq.mpr c3
  have c3b2 : (l0.length == l1.length) = true := by first | simpa using c3 | (simp at c3 ⊢; omega)
  clear c3
  have H' := Aside0.mk H
  clear H
  go_enter Tryd.func16, Tryd.ntmps16
  go_wp2
  repeat (go_quiet (fail); try go_wp2)
  go_loopg [5] k (fun kq v5 w' => ∃ (x5_1 : Int), v5 = .int .i64 x5_1 ∧ Aside0 (selvagelaw05_same.l0 kq l0 l1 x5_1 = some r) ∧ Aside0 (kq ≤ k) ∧ Drawn0 w w')
  case atStart => exact ⟨(0), eqNow, H', ⟨Nat.le_refl _⟩, drawnNow⟩
  case round =>
   clear H'
   try clear c1
   try clear p2
   try clear c3
   try clear c3b0
   try clear c3b1
   try clear c3b2
   obtain ⟨x5_1, rfl, HA, HK1, ⟨m1, rfl⟩⟩ := hrel
   cases gk with
   | zero => exact absurd HA.out (by simp [selvagelaw05_same.l0])
   | succ k1 =>
    have H := HA.out
    clear HA
    simp only [selvagelaw05_same.l0] at H
    by_cases c4 : x5_1 < (l0.length : Int)
    ·rw [if_pos c4] at H
     have c4b0 : decide (x5_1 < (l0.length : Int)) = true := decide_eq_true c4
     clear c4
     by_cases c5 : 0 ≤ x5_1
     ·rw [if_pos c5] at H
      have c5b0 : decide (0 ≤ x5_1) = true := decide_eq_true c5
      clear c5
      by_cases c6 : x5_1 < (l1.length : Int)
      ·rw [if_pos c6] at H
       have c6b0 : decide (x5_1 < (l1.length : Int)) = true := decide_eq_true c6
       clear c6
       by_cases c7 : (rd l0 x5_1) = (rd l1 x5_1)
       ·rw [if_pos c7] at H
        have c7b0 : ((rd l0 x5_1) == (rd l1 x5_1)) = true := beq_iff_eq.mpr c7
        have c7b1 : ((rd l0 x5_1) != (rd l1 x5_1)) = false := bne_eq_false_iff_eq.mpr c7
        clear c7
        have H' := Aside0.mk H
        clear H
        have p157 : 0 ≤ (x5_1 : Int) := ofDec
        have q157 : x5_1 < (l0.length : Int) := ofDec
        obtain ⟨ad157, e157, hx157_0⟩ := Kd.at_int HR0.out x5_1 p157 q157
        cases e157
        replace p157 := eq_true p157
        replace q157 := eq_true q157
        have p158 : 0 ≤ (x5_1 : Int) := ofDec
        have q158 : x5_1 < (l1.length : Int) := ofDec
        obtain ⟨ad158, e158, hx158_0⟩ := Kd.at_int HR1.out x5_1 p158 q158
        cases e158
        replace p158 := eq_true p158
        replace q158 := eq_true q158
        go_wp2
        repeat (go_quiet (fail); try go_wp2)
        go_roundg k1
        case measure => have := HK1.out; omega
        case rel => exact ⟨(wrap64 (x5_1 + 1)), eqNow, H', ⟨by have := HK1.out; omega⟩, drawnNow⟩
       ·rw [if_neg c7] at H
        have c7b0 : ((rd l0 x5_1) == (rd l1 x5_1)) = false := beq_eq_false_iff_ne.mpr c7
        have c7b1 : ((rd l0 x5_1) != (rd l1 x5_1)) = true := bne_iff_ne.mpr c7
        obtain rfl := Option.some.inj H
        have p157 : 0 ≤ (x5_1 : Int) := ofDec
        have q157 : x5_1 < (l0.length : Int) := ofDec
        obtain ⟨ad157, e157, hx157_0⟩ := Kd.at_int HR0.out x5_1 p157 q157
        cases e157
        replace p157 := eq_true p157
        replace q157 := eq_true q157
        have p158 : 0 ≤ (x5_1 : Int) := ofDec
        have q158 : x5_1 < (l1.length : Int) := ofDec
        obtain ⟨ad158, e158, hx158_0⟩ := Kd.at_int HR1.out x5_1 p158 q158
        cases e158
        replace p158 := eq_true p158
        replace q158 := eq_true q158
        go_wp2
        repeat (go_quiet (fail); try go_wp2)
        go_ret
        exact ⟨eqFin, drawnNow⟩
      ·rw [if_neg c6] at H
       exact absurd H (by simp)
     ·rw [if_neg c5] at H
      exact absurd H (by simp)
    ·rw [if_neg c4] at H
     have c4b0 : decide (x5_1 < (l0.length : Int)) = false := decide_eq_false c4
     clear c4
     obtain rfl := Option.some.inj H
     go_wp2
     repeat (go_quiet (fail); try go_wp2)
     go_ret
     exact ⟨eqFin, drawnNow⟩
 ·rw [if_neg c3] at H
  have c3b0 : ((l0.length : Int) == (l1.length : Int)) = false := beq_eq_false_iff_ne.mpr c3
  have c3b1 : ((l0.length : Int) != (l1.length : Int)) = true := bne_iff_ne.mpr c3
  have c3b2 : (l0.length == l1.length) = false := by first | simpa using c3 | (simp at c3 ⊢; omega)
  obtain rfl := Option.some.inj H
  go_enter Tryd.func16, Tryd.ntmps16
  go_wp2
  repeat (go_quiet (fail); try go_wp2)
  go_ret
  exact ⟨eqFin, drawnNow⟩
def selvagelaw05_sure.f (k : Nat)  : Option (Bool) := (intern_Ids.f k (([(⟨#[120, 10]⟩ : ByteArray), (⟨#[121, 10]⟩ : ByteArray)] : List ByteArray)) (([(⟨#[121, 10]⟩ : ByteArray), (⟨#[88]⟩ : ByteArray)] : List ByteArray)) 1).bind fun bt165 => (if bt165.2.2.isNone = true then ((selvagelaw05_same.f k bt165.1 (([0, 1] : List Int))).bind fun t176 => (if t176 = true then ((selvagelaw05_same.f k bt165.2.1 (([1, 2] : List Int))).bind fun t180 => (if t180 = true then ((intern_Key.f k (⟨#[65, 32, 32, 98, 32, 10]⟩ : ByteArray) 4).bind fun t181 => (if t181.toList = ([65, 32, 98, 10] : List UInt8) then ((intern_Blank.f (⟨#[32, 10]⟩ : ByteArray)).bind fun t182 => (if t182 = true then ((intern_Blank.f (⟨#[120]⟩ : ByteArray)).bind fun t183 => (some (!t183))) else (some false))) else (some false))) else (some false))) else (some false))) else (some false))
theorem selvagelaw05_sure.mono : ∀ k, LeO (selvagelaw05_sure.f k ) (selvagelaw05_sure.f (k + 1) ) := by
 intro  k
 unfold selvagelaw05_sure.f
 repeat' first
   | (with_reducible exact intern_Ids.mono _ _ _ _)
   | (with_reducible exact intern_Key.mono _ _ _)
   | (with_reducible exact selvagelaw05_same.mono _ _ _)
   | (with_reducible exact LeO.refl _)
   | (with_reducible exact LeO.none _)
   | (with_reducible refine LeO.ite ?_ ?_)
   | (with_reducible refine LeO.bind ?_ (fun _ => ?_))
   | exact intern_Ids.mono _ _ _ _
   | exact intern_Key.mono _ _ _
   | exact selvagelaw05_same.mono _ _ _
   | exact LeO.none _
   | refine LeO.ite ?_ ?_
   | refine LeO.bind ?_ (fun _ => ?_)
set_option maxHeartbeats 8000000 in
set_option maxRecDepth 100000 in
theorem selvagelaw05_sure.calls (k : Nat)  (r : Bool) (w : World) (h : selvagelaw05_sure.f k  = some r) :
  Calls Tryd.prog 12 #[] w fun e w' => e = .returned (.bool r) ∧ Below w.heap.size w w' := by
 have hu29 := Tryd.underlying29
 have HB := Aside0.mk (Below.refl w.heap.size w)
 have H : ((intern_Ids.f k (([(⟨#[120, 10]⟩ : ByteArray), (⟨#[121, 10]⟩ : ByteArray)] : List ByteArray)) (([(⟨#[121, 10]⟩ : ByteArray), (⟨#[88]⟩ : ByteArray)] : List ByteArray)) 1).bind fun bt165 => (if bt165.2.2.isNone = true then ((selvagelaw05_same.f k bt165.1 (([0, 1] : List Int))).bind fun t176 => (if t176 = true then ((selvagelaw05_same.f k bt165.2.1 (([1, 2] : List Int))).bind fun t180 => (if t180 = true then ((intern_Key.f k (⟨#[65, 32, 32, 98, 32, 10]⟩ : ByteArray) 4).bind fun t181 => (if t181.toList = ([65, 32, 98, 10] : List UInt8) then ((intern_Blank.f (⟨#[32, 10]⟩ : ByteArray)).bind fun t182 => (if t182 = true then ((intern_Blank.f (⟨#[120]⟩ : ByteArray)).bind fun t183 => (some (!t183))) else (some false))) else (some false))) else (some false))) else (some false))) else (some false))) = some r := h
 clear h
 obtain ⟨y159, hy159⟩ : ∃ y_ : List ByteArray, y_ = (([(⟨#[120, 10]⟩ : ByteArray), (⟨#[121, 10]⟩ : ByteArray)] : List ByteArray)) := ⟨_, rfl⟩
 replace H : ((intern_Ids.f k y159 (([(⟨#[121, 10]⟩ : ByteArray), (⟨#[88]⟩ : ByteArray)] : List ByteArray)) 1).bind fun bt165 => (if bt165.2.2.isNone = true then ((selvagelaw05_same.f k bt165.1 (([0, 1] : List Int))).bind fun t176 => (if t176 = true then ((selvagelaw05_same.f k bt165.2.1 (([1, 2] : List Int))).bind fun t180 => (if t180 = true then ((intern_Key.f k (⟨#[65, 32, 32, 98, 32, 10]⟩ : ByteArray) 4).bind fun t181 => (if t181.toList = ([65, 32, 98, 10] : List UInt8) then ((intern_Blank.f (⟨#[32, 10]⟩ : ByteArray)).bind fun t182 => (if t182 = true then ((intern_Blank.f (⟨#[120]⟩ : ByteArray)).bind fun t183 => (some (!t183))) else (some false))) else (some false))) else (some false))) else (some false))) else (some false))) = some r := by first | (rw [hy159]; with_reducible exact H) | (have H2_ := (Option.bind_some _ _).symm.trans H; rw [hy159]; with_reducible exact H2_) | (have H2_ := (Option.bind_some _ _).symm.trans H; with_reducible exact H2_) | with_reducible exact H | (rw [hy159]; exact H) | exact H
 have Ny159 := Aside0.mk hy159
 clear hy159
 obtain ⟨y162, hy162⟩ : ∃ y_ : List ByteArray, y_ = (([(⟨#[121, 10]⟩ : ByteArray), (⟨#[88]⟩ : ByteArray)] : List ByteArray)) := ⟨_, rfl⟩
 replace H : ((intern_Ids.f k y159 y162 1).bind fun bt165 => (if bt165.2.2.isNone = true then ((selvagelaw05_same.f k bt165.1 (([0, 1] : List Int))).bind fun t176 => (if t176 = true then ((selvagelaw05_same.f k bt165.2.1 (([1, 2] : List Int))).bind fun t180 => (if t180 = true then ((intern_Key.f k (⟨#[65, 32, 32, 98, 32, 10]⟩ : ByteArray) 4).bind fun t181 => (if t181.toList = ([65, 32, 98, 10] : List UInt8) then ((intern_Blank.f (⟨#[32, 10]⟩ : ByteArray)).bind fun t182 => (if t182 = true then ((intern_Blank.f (⟨#[120]⟩ : ByteArray)).bind fun t183 => (some (!t183))) else (some false))) else (some false))) else (some false))) else (some false))) else (some false))) = some r := by first | (rw [hy162]; with_reducible exact H) | (have H2_ := (Option.bind_some _ _).symm.trans H; rw [hy162]; with_reducible exact H2_) | (have H2_ := (Option.bind_some _ _).symm.trans H; with_reducible exact H2_) | with_reducible exact H | (rw [hy162]; exact H) | exact H
 have Ny162 := Aside0.mk hy162
 clear hy162
 replace H := Option.bind_eq_some_iff.mp H
 obtain ⟨⟨t165, t166, t167⟩, A10, H⟩ := H
 replace H : (if t167.isNone = true then ((selvagelaw05_same.f k t165 (([0, 1] : List Int))).bind fun t176 => (if t176 = true then ((selvagelaw05_same.f k t166 (([1, 2] : List Int))).bind fun t180 => (if t180 = true then ((intern_Key.f k (⟨#[65, 32, 32, 98, 32, 10]⟩ : ByteArray) 4).bind fun t181 => (if t181.toList = ([65, 32, 98, 10] : List UInt8) then ((intern_Blank.f (⟨#[32, 10]⟩ : ByteArray)).bind fun t182 => (if t182 = true then ((intern_Blank.f (⟨#[120]⟩ : ByteArray)).bind fun t183 => (some (!t183))) else (some false))) else (some false))) else (some false))) else (some false))) else (some false)) = some r := H
 have A1 := Aside0.mk A10
 clear A10
 rcases t167 with _ | q172
 ·have H1 : ((selvagelaw05_same.f k t165 (([0, 1] : List Int))).bind fun t176 => (if t176 = true then ((selvagelaw05_same.f k t166 (([1, 2] : List Int))).bind fun t180 => (if t180 = true then ((intern_Key.f k (⟨#[65, 32, 32, 98, 32, 10]⟩ : ByteArray) 4).bind fun t181 => (if t181.toList = ([65, 32, 98, 10] : List UInt8) then ((intern_Blank.f (⟨#[32, 10]⟩ : ByteArray)).bind fun t182 => (if t182 = true then ((intern_Blank.f (⟨#[120]⟩ : ByteArray)).bind fun t183 => (some (!t183))) else (some false))) else (some false))) else (some false))) else (some false))) = some r := by rw [if_pos (show (none : Option Int).isNone = true by rfl)] at H; exact H
  clear H
  have H := H1
  clear H1
  try simp only [errW_none, errW_some]
  obtain ⟨y173, hy173⟩ : ∃ y_ : List Int, y_ = (([0, 1] : List Int)) := ⟨_, rfl⟩
  replace H : ((selvagelaw05_same.f k t165 y173).bind fun t176 => (if t176 = true then ((selvagelaw05_same.f k t166 (([1, 2] : List Int))).bind fun t180 => (if t180 = true then ((intern_Key.f k (⟨#[65, 32, 32, 98, 32, 10]⟩ : ByteArray) 4).bind fun t181 => (if t181.toList = ([65, 32, 98, 10] : List UInt8) then ((intern_Blank.f (⟨#[32, 10]⟩ : ByteArray)).bind fun t182 => (if t182 = true then ((intern_Blank.f (⟨#[120]⟩ : ByteArray)).bind fun t183 => (some (!t183))) else (some false))) else (some false))) else (some false))) else (some false))) = some r := by first | (rw [hy173]; with_reducible exact H) | (have H2_ := (Option.bind_some _ _).symm.trans H; rw [hy173]; with_reducible exact H2_) | (have H2_ := (Option.bind_some _ _).symm.trans H; with_reducible exact H2_) | with_reducible exact H | (rw [hy173]; exact H) | exact H
  have Ny173 := Aside0.mk hy173
  clear hy173
  replace H := Option.bind_eq_some_iff.mp H
  obtain ⟨t176, A20, H⟩ := H
  replace H : (if t176 = true then ((selvagelaw05_same.f k t166 (([1, 2] : List Int))).bind fun t180 => (if t180 = true then ((intern_Key.f k (⟨#[65, 32, 32, 98, 32, 10]⟩ : ByteArray) 4).bind fun t181 => (if t181.toList = ([65, 32, 98, 10] : List UInt8) then ((intern_Blank.f (⟨#[32, 10]⟩ : ByteArray)).bind fun t182 => (if t182 = true then ((intern_Blank.f (⟨#[120]⟩ : ByteArray)).bind fun t183 => (some (!t183))) else (some false))) else (some false))) else (some false))) else (some false)) = some r := H
  have A2 := Aside0.mk A20
  clear A20
  by_cases c3 : t176 = true
  ·subst c3
   have H1 : ((selvagelaw05_same.f k t166 (([1, 2] : List Int))).bind fun t180 => (if t180 = true then ((intern_Key.f k (⟨#[65, 32, 32, 98, 32, 10]⟩ : ByteArray) 4).bind fun t181 => (if t181.toList = ([65, 32, 98, 10] : List UInt8) then ((intern_Blank.f (⟨#[32, 10]⟩ : ByteArray)).bind fun t182 => (if t182 = true then ((intern_Blank.f (⟨#[120]⟩ : ByteArray)).bind fun t183 => (some (!t183))) else (some false))) else (some false))) else (some false))) = some r := by rw [if_pos rfl] at H; exact H
   clear H
   have H := H1
   clear H1
   obtain ⟨y177, hy177⟩ : ∃ y_ : List Int, y_ = (([1, 2] : List Int)) := ⟨_, rfl⟩
   replace H : ((selvagelaw05_same.f k t166 y177).bind fun t180 => (if t180 = true then ((intern_Key.f k (⟨#[65, 32, 32, 98, 32, 10]⟩ : ByteArray) 4).bind fun t181 => (if t181.toList = ([65, 32, 98, 10] : List UInt8) then ((intern_Blank.f (⟨#[32, 10]⟩ : ByteArray)).bind fun t182 => (if t182 = true then ((intern_Blank.f (⟨#[120]⟩ : ByteArray)).bind fun t183 => (some (!t183))) else (some false))) else (some false))) else (some false))) = some r := by first | (rw [hy177]; with_reducible exact H) | (have H2_ := (Option.bind_some _ _).symm.trans H; rw [hy177]; with_reducible exact H2_) | (have H2_ := (Option.bind_some _ _).symm.trans H; with_reducible exact H2_) | with_reducible exact H | (rw [hy177]; exact H) | exact H
   have Ny177 := Aside0.mk hy177
   clear hy177
   replace H := Option.bind_eq_some_iff.mp H
   obtain ⟨t180, A40, H⟩ := H
   replace H : (if t180 = true then ((intern_Key.f k (⟨#[65, 32, 32, 98, 32, 10]⟩ : ByteArray) 4).bind fun t181 => (if t181.toList = ([65, 32, 98, 10] : List UInt8) then ((intern_Blank.f (⟨#[32, 10]⟩ : ByteArray)).bind fun t182 => (if t182 = true then ((intern_Blank.f (⟨#[120]⟩ : ByteArray)).bind fun t183 => (some (!t183))) else (some false))) else (some false))) else (some false)) = some r := H
   have A4 := Aside0.mk A40
   clear A40
   by_cases c5 : t180 = true
   ·subst c5
    have H1 : ((intern_Key.f k (⟨#[65, 32, 32, 98, 32, 10]⟩ : ByteArray) 4).bind fun t181 => (if t181.toList = ([65, 32, 98, 10] : List UInt8) then ((intern_Blank.f (⟨#[32, 10]⟩ : ByteArray)).bind fun t182 => (if t182 = true then ((intern_Blank.f (⟨#[120]⟩ : ByteArray)).bind fun t183 => (some (!t183))) else (some false))) else (some false))) = some r := by rw [if_pos rfl] at H; exact H
    clear H
    have H := H1
    clear H1
    replace H := Option.bind_eq_some_iff.mp H
    obtain ⟨t181, A60, H⟩ := H
    replace H : (if t181.toList = ([65, 32, 98, 10] : List UInt8) then ((intern_Blank.f (⟨#[32, 10]⟩ : ByteArray)).bind fun t182 => (if t182 = true then ((intern_Blank.f (⟨#[120]⟩ : ByteArray)).bind fun t183 => (some (!t183))) else (some false))) else (some false)) = some r := H
    have A6 := Aside0.mk A60
    clear A60
    by_cases c7 : t181.toList = ([65, 32, 98, 10] : List UInt8)
    ·rw [if_pos c7] at H
     have c7b0 : (t181.toList == ([65, 32, 98, 10] : List UInt8)) = true := beq_iff_eq.mpr c7
     have c7b1 : (t181.toList != ([65, 32, 98, 10] : List UInt8)) = false := bne_eq_false_iff_eq.mpr c7
     clear c7
     replace H := Option.bind_eq_some_iff.mp H
     obtain ⟨t182, A80, H⟩ := H
     replace H : (if t182 = true then ((intern_Blank.f (⟨#[120]⟩ : ByteArray)).bind fun t183 => (some (!t183))) else (some false)) = some r := H
     have A8 := Aside0.mk A80
     clear A80
     by_cases c9 : t182 = true
     ·subst c9
      have H1 : ((intern_Blank.f (⟨#[120]⟩ : ByteArray)).bind fun t183 => (some (!t183))) = some r := by rw [if_pos rfl] at H; exact H
      clear H
      have H := H1
      clear H1
      replace H := Option.bind_eq_some_iff.mp H
      obtain ⟨t183, A100, H⟩ := H
      replace H : (some (!t183)) = some r := H
      have A10 := Aside0.mk A100
      clear A100
      obtain rfl := Option.some.inj H
      go_enter Tryd.func12, Tryd.ntmps12
      go_wp2_with (first | ((with_reducible refine gate_dst (N := 5) rfl ?_); (try (refine gate_guard (by rfl) ?_; dsimp only)); refine Kd.R_lit Kd.string _ 9 ?hg (N := 5) ?hd (xs := ([(⟨#[120, 10]⟩ : ByteArray), (⟨#[121, 10]⟩ : ByteArray)] : List ByteArray)) (inner := [.string (⟨#[120, 10]⟩ : ByteArray), .string (⟨#[121, 10]⟩ : ByteArray)]) (ok := fun _ => True) (okp := fun _ => True) ?hr ?hp (fun _ hk => hk) trivial (Below.refl _ _) (Nat.le_refl _) (by simp) ?_; (case hd => rfl); (case hg => rfl); (case hr => first | (go_simp; done) | (go_simp; rfl)); (case hp => exact (Reps.one (show Kd.M Kd.string _ _ _ (⟨#[120, 10]⟩ : ByteArray) [.string (⟨#[120, 10]⟩ : ByteArray)] from rfl) (Reps.one (show Kd.M Kd.string _ _ _ (⟨#[121, 10]⟩ : ByteArray) [.string (⟨#[121, 10]⟩ : ByteArray)] from rfl) (Reps.none _ _)))); intro v160 w11 ho12 hb hg_ hnew_; clear hg_ hnew_; (first | rw [← Ny159.out] at ho12 | (simp only [Int.reduceToNat] at ho12; rw [← Ny159.out] at ho12)); have n0_ := Aside0.mk (Kd.R_lower ho12 (below_size belNow)); have n1_ := Aside0.mk (below_step belNow hb); clear HB; have HO161 := n0_; have HB := n1_; clear n0_ n1_; clear hb ho12) | ((with_reducible refine gate_dst (N := 6) rfl ?_); (try (refine gate_guard (by rfl) ?_; dsimp only)); refine Kd.R_lit Kd.string _ 9 ?hg (N := 6) ?hd (xs := ([(⟨#[121, 10]⟩ : ByteArray), (⟨#[88]⟩ : ByteArray)] : List ByteArray)) (inner := [.string (⟨#[121, 10]⟩ : ByteArray), .string (⟨#[88]⟩ : ByteArray)]) (ok := fun _ => True) (okp := fun _ => True) ?hr ?hp (fun _ hk => hk) trivial (Below.refl _ _) (Nat.le_refl _) (by simp) ?_; (case hd => rfl); (case hg => rfl); (case hr => first | (go_simp; done) | (go_simp; rfl)); (case hp => exact (Reps.one (show Kd.M Kd.string _ _ _ (⟨#[121, 10]⟩ : ByteArray) [.string (⟨#[121, 10]⟩ : ByteArray)] from rfl) (Reps.one (show Kd.M Kd.string _ _ _ (⟨#[88]⟩ : ByteArray) [.string (⟨#[88]⟩ : ByteArray)] from rfl) (Reps.none _ _)))); intro v163 w13 ho14 hb hg_ hnew_; clear hg_ hnew_; (first | rw [← Ny162.out] at ho14 | (simp only [Int.reduceToNat] at ho14; rw [← Ny162.out] at ho14)); have n0_ := Aside0.mk (Kd.R_elder' (kdUp HO161.out) (Kd.R_base ho14) hb); have n1_ := Aside0.mk (Kd.R_lower (Kd.R_new' ho14 (Kd.R_lt (kdUp HO161.out))) (below_size belNow)); have n2_ := Aside0.mk (below_step belNow hb); clear HO161; clear HB; have HO161 := n0_; have HO164 := n1_; have HB := n2_; clear n0_ n1_ n2_; clear hb ho14; obtain ⟨Ao15, co15, eo15⟩ := Kd.R_slice HO161.out; subst eo15; obtain ⟨Ao16, co16, eo16⟩ := Kd.R_slice HO164.out; subst eo16) | ((with_reducible refine gate_callee (f := 13) rfl ?_); refine goesL_ (some 7) rfl rfl Tryd.func13 (by kernel_rfl) rfl #[.slice Ao15 y159.length co15, .slice Ao16 y162.length co16, .int .i64 1] rfl argsOk ?_; (with_reducible refine (intern_Ids.calls k _ _ y159 _ _ y162 1 t165 t166 none _ ?side1 ?side2 ?side3 ?side4 A1.out).mono ?_); (case side1 => repeat (first | exact (Kd.R_reads' HO161.out).2.2 | (with_reducible refine Kd.C_alloc ?_ _) | (with_reducible refine Kd.C_drewN ?_ _) | (with_reducible refine Kd.C_drew ?_))); (case side2 => exact (Kd.R_reads' HO161.out).2.1); (case side3 => repeat (first | exact (Kd.R_reads' HO164.out).2.2 | (with_reducible refine Kd.C_alloc ?_ _) | (with_reducible refine Kd.C_drewN ?_ _) | (with_reducible refine Kd.C_drew ?_))); (case side4 => exact (Kd.R_reads' HO164.out).2.1); rintro e w17 ⟨v168, v170, rfl, ho0, ho1, hb⟩; refine ⟨_, rfl, ?_⟩; have n0_ := Aside0.mk (Kd.R_below (kdUp HO161.out) hb); have n1_ := Aside0.mk (Kd.R_below (kdUp HO164.out) hb); have n2_ := Aside0.mk (Kd.R_lower ho0 (below_size belNow)); have n3_ := Aside0.mk (Kd.R_lower ho1 (below_size belNow)); have n4_ := Aside0.mk (below_step belNow hb); clear HO161; clear HO164; clear HB; have HO161 := n0_; have HO164 := n1_; have HO169 := n2_; have HO171 := n3_; have HB := n4_; clear n0_ n1_ n2_ n3_ n4_; (try clear hb); (try clear hb2); (try clear hk); (try clear hi); (try clear ho0); (try clear ho1); (try simp only [errW_none, errW_some])) | ((with_reducible refine gate_dst (N := 15) rfl ?_); (try (refine gate_guard (by rfl) ?_; dsimp only)); refine Kd.R_lit (Kd.int .i64) _ 3 ?hg (N := 15) ?hd (xs := ([0, 1] : List Int)) (inner := [.int .i64 0, .int .i64 1]) (ok := fun _ => True) (okp := fun _ => True) ?hr ?hp (fun _ hk => hk) trivial (Below.refl _ _) (Nat.le_refl _) (by simp) ?_; (case hd => rfl); (case hg => rfl); (case hr => first | (go_simp; done) | (go_simp; rfl)); (case hp => exact (Reps.one (show Kd.M (Kd.int .i64) _ _ _ 0 [.int .i64 0] from rfl) (Reps.one (show Kd.M (Kd.int .i64) _ _ _ 1 [.int .i64 1] from rfl) (Reps.none _ _)))); intro v174 w18 ho19 hb hg_ hnew_; clear hg_ hnew_; (first | rw [← Ny173.out] at ho19 | (simp only [Int.reduceToNat] at ho19; rw [← Ny173.out] at ho19)); have n0_ := Aside0.mk (Kd.R_below (kdUp HO161.out) hb); have n1_ := Aside0.mk (Kd.R_below (kdUp HO164.out) hb); have n2_ := Aside0.mk (Kd.R_elder' (kdUp HO169.out) (Kd.R_base ho19) hb); have n3_ := Aside0.mk (Kd.R_elder' (kdUp HO171.out) (Kd.R_base ho19) hb); have n4_ := Aside0.mk (Kd.R_lower (Kd.R_new' (Kd.R_new' ho19 (Kd.R_lt (kdUp HO169.out))) (Kd.R_lt (kdUp HO171.out))) (below_size belNow)); have n5_ := Aside0.mk (below_step belNow hb); clear HO161; clear HO164; clear HO169; clear HO171; clear HB; have HO161 := n0_; have HO164 := n1_; have HO169 := n2_; have HO171 := n3_; have HO175 := n4_; have HB := n5_; clear n0_ n1_ n2_ n3_ n4_ n5_; clear hb ho19; obtain ⟨Ao20, co20, eo20⟩ := Kd.R_slice HO169.out; subst eo20; obtain ⟨Ao21, co21, eo21⟩ := Kd.R_slice HO175.out; subst eo21) | (go_at_call 16; (with_reducible refine (selvagelaw05_same.calls k _ _ t165 _ _ y173 true _ ?side1 ?side2 ?side3 ?side4 A2.out).mono ?_); (case side1 => repeat (first | exact (Kd.R_reads' HO169.out).2.2 | (with_reducible refine Kd.C_alloc ?_ _) | (with_reducible refine Kd.C_drewN ?_ _) | (with_reducible refine Kd.C_drew ?_))); (case side2 => exact (Kd.R_reads' HO169.out).2.1); (case side3 => repeat (first | exact (Kd.R_reads' HO175.out).2.2 | (with_reducible refine Kd.C_alloc ?_ _) | (with_reducible refine Kd.C_drewN ?_ _) | (with_reducible refine Kd.C_drew ?_))); (case side4 => exact (Kd.R_reads' HO175.out).2.1); rintro e w' ⟨rfl, ⟨nd, rfl⟩⟩) | ((with_reducible refine gate_dst (N := 20) rfl ?_); (try (refine gate_guard (by rfl) ?_; dsimp only)); refine Kd.R_lit (Kd.int .i64) _ 3 ?hg (N := 20) ?hd (xs := ([1, 2] : List Int)) (inner := [.int .i64 1, .int .i64 2]) (ok := fun _ => True) (okp := fun _ => True) ?hr ?hp (fun _ hk => hk) trivial (Below.refl _ _) (Nat.le_refl _) (by simp) ?_; (case hd => rfl); (case hg => rfl); (case hr => first | (go_simp; done) | (go_simp; rfl)); (case hp => exact (Reps.one (show Kd.M (Kd.int .i64) _ _ _ 1 [.int .i64 1] from rfl) (Reps.one (show Kd.M (Kd.int .i64) _ _ _ 2 [.int .i64 2] from rfl) (Reps.none _ _)))); intro v178 w22 ho23 hb hg_ hnew_; clear hg_ hnew_; (first | rw [← Ny177.out] at ho23 | (simp only [Int.reduceToNat] at ho23; rw [← Ny177.out] at ho23)); have n0_ := Aside0.mk (Kd.R_below (kdUp HO161.out) hb); have n1_ := Aside0.mk (Kd.R_below (kdUp HO164.out) hb); have n2_ := Aside0.mk (Kd.R_elder' (kdUp HO169.out) (Kd.R_base ho23) hb); have n3_ := Aside0.mk (Kd.R_elder' (kdUp HO171.out) (Kd.R_base ho23) hb); have n4_ := Aside0.mk (Kd.R_elder' (kdUp HO175.out) (Kd.R_base ho23) hb); have n5_ := Aside0.mk (Kd.R_lower (Kd.R_new' (Kd.R_new' (Kd.R_new' ho23 (Kd.R_lt (kdUp HO169.out))) (Kd.R_lt (kdUp HO171.out))) (Kd.R_lt (kdUp HO175.out))) (below_size belNow)); have n6_ := Aside0.mk (below_step belNow hb); clear HO161; clear HO164; clear HO169; clear HO171; clear HO175; clear HB; have HO161 := n0_; have HO164 := n1_; have HO169 := n2_; have HO171 := n3_; have HO175 := n4_; have HO179 := n5_; have HB := n6_; clear n0_ n1_ n2_ n3_ n4_ n5_ n6_; clear hb ho23; obtain ⟨Ao24, co24, eo24⟩ := Kd.R_slice HO171.out; subst eo24; obtain ⟨Ao25, co25, eo25⟩ := Kd.R_slice HO179.out; subst eo25) | (go_at_call 16; (with_reducible refine (selvagelaw05_same.calls k _ _ t166 _ _ y177 true _ ?side1 ?side2 ?side3 ?side4 A4.out).mono ?_); (case side1 => repeat (first | exact (Kd.R_reads' HO171.out).2.2 | (with_reducible refine Kd.C_alloc ?_ _) | (with_reducible refine Kd.C_drewN ?_ _) | (with_reducible refine Kd.C_drew ?_))); (case side2 => exact (Kd.R_reads' HO171.out).2.1); (case side3 => repeat (first | exact (Kd.R_reads' HO179.out).2.2 | (with_reducible refine Kd.C_alloc ?_ _) | (with_reducible refine Kd.C_drewN ?_ _) | (with_reducible refine Kd.C_drew ?_))); (case side4 => exact (Kd.R_reads' HO179.out).2.1); rintro e w' ⟨rfl, ⟨nd, rfl⟩⟩) | (go_at_call 8; (with_reducible refine (intern_Key.calls k (⟨#[65, 32, 32, 98, 32, 10]⟩ : ByteArray) 4 t181 _ A6.out).mono ?_); rintro e w26 ⟨rfl, hb⟩; have n0_ := Aside0.mk (Kd.R_below (kdUp HO161.out) hb); have n1_ := Aside0.mk (Kd.R_below (kdUp HO164.out) hb); have n2_ := Aside0.mk (Kd.R_below (kdUp HO169.out) hb); have n3_ := Aside0.mk (Kd.R_below (kdUp HO171.out) hb); have n4_ := Aside0.mk (Kd.R_below (kdUp HO175.out) hb); have n5_ := Aside0.mk (Kd.R_below (kdUp HO179.out) hb); have n6_ := Aside0.mk (below_step belNow hb); clear HO161; clear HO164; clear HO169; clear HO171; clear HO175; clear HO179; clear HB; have HO161 := n0_; have HO164 := n1_; have HO169 := n2_; have HO171 := n3_; have HO175 := n4_; have HO179 := n5_; have HB := n6_; clear n0_ n1_ n2_ n3_ n4_ n5_ n6_; (try clear hb); (try clear hb2); (try clear hk); (try clear hi)) | (go_at_call 10; (with_reducible refine (intern_Blank.calls (⟨#[32, 10]⟩ : ByteArray) true _ A8.out).mono ?_); rintro e w27 ⟨rfl, hb⟩; have n0_ := Aside0.mk (Kd.R_below (kdUp HO161.out) hb); have n1_ := Aside0.mk (Kd.R_below (kdUp HO164.out) hb); have n2_ := Aside0.mk (Kd.R_below (kdUp HO169.out) hb); have n3_ := Aside0.mk (Kd.R_below (kdUp HO171.out) hb); have n4_ := Aside0.mk (Kd.R_below (kdUp HO175.out) hb); have n5_ := Aside0.mk (Kd.R_below (kdUp HO179.out) hb); have n6_ := Aside0.mk (below_step belNow hb); clear HO161; clear HO164; clear HO169; clear HO171; clear HO175; clear HO179; clear HB; have HO161 := n0_; have HO164 := n1_; have HO169 := n2_; have HO171 := n3_; have HO175 := n4_; have HO179 := n5_; have HB := n6_; clear n0_ n1_ n2_ n3_ n4_ n5_ n6_; (try clear hb); (try clear hb2); (try clear hk); (try clear hi)) | (go_at_call 10; (with_reducible refine (intern_Blank.calls (⟨#[120]⟩ : ByteArray) t183 _ A10.out).mono ?_); rintro e w28 ⟨rfl, hb⟩; have n0_ := Aside0.mk (Kd.R_below (kdUp HO161.out) hb); have n1_ := Aside0.mk (Kd.R_below (kdUp HO164.out) hb); have n2_ := Aside0.mk (Kd.R_below (kdUp HO169.out) hb); have n3_ := Aside0.mk (Kd.R_below (kdUp HO171.out) hb); have n4_ := Aside0.mk (Kd.R_below (kdUp HO175.out) hb); have n5_ := Aside0.mk (Kd.R_below (kdUp HO179.out) hb); have n6_ := Aside0.mk (below_step belNow hb); clear HO161; clear HO164; clear HO169; clear HO171; clear HO175; clear HO179; clear HB; have HO161 := n0_; have HO164 := n1_; have HO169 := n2_; have HO171 := n3_; have HO175 := n4_; have HO179 := n5_; have HB := n6_; clear n0_ n1_ n2_ n3_ n4_ n5_ n6_; (try clear hb); (try clear hb2); (try clear hk); (try clear hi)))
      go_ret
      exact ⟨eqEnd, belNow⟩
     ·replace c9 := Bool.eq_false_iff.mpr c9
      subst c9
      have H1 : (some false) = some r := by rw [if_neg (show ¬ (false = true) by decide)] at H; exact H
      clear H
      have H := H1
      clear H1
      obtain rfl := Option.some.inj H
      go_enter Tryd.func12, Tryd.ntmps12
      go_wp2_with (first | ((with_reducible refine gate_dst (N := 5) rfl ?_); (try (refine gate_guard (by rfl) ?_; dsimp only)); refine Kd.R_lit Kd.string _ 9 ?hg (N := 5) ?hd (xs := ([(⟨#[120, 10]⟩ : ByteArray), (⟨#[121, 10]⟩ : ByteArray)] : List ByteArray)) (inner := [.string (⟨#[120, 10]⟩ : ByteArray), .string (⟨#[121, 10]⟩ : ByteArray)]) (ok := fun _ => True) (okp := fun _ => True) ?hr ?hp (fun _ hk => hk) trivial (Below.refl _ _) (Nat.le_refl _) (by simp) ?_; (case hd => rfl); (case hg => rfl); (case hr => first | (go_simp; done) | (go_simp; rfl)); (case hp => exact (Reps.one (show Kd.M Kd.string _ _ _ (⟨#[120, 10]⟩ : ByteArray) [.string (⟨#[120, 10]⟩ : ByteArray)] from rfl) (Reps.one (show Kd.M Kd.string _ _ _ (⟨#[121, 10]⟩ : ByteArray) [.string (⟨#[121, 10]⟩ : ByteArray)] from rfl) (Reps.none _ _)))); intro v160 w29 ho30 hb hg_ hnew_; clear hg_ hnew_; (first | rw [← Ny159.out] at ho30 | (simp only [Int.reduceToNat] at ho30; rw [← Ny159.out] at ho30)); have n0_ := Aside0.mk (Kd.R_lower ho30 (below_size belNow)); have n1_ := Aside0.mk (below_step belNow hb); clear HB; have HO161 := n0_; have HB := n1_; clear n0_ n1_; clear hb ho30) | ((with_reducible refine gate_dst (N := 6) rfl ?_); (try (refine gate_guard (by rfl) ?_; dsimp only)); refine Kd.R_lit Kd.string _ 9 ?hg (N := 6) ?hd (xs := ([(⟨#[121, 10]⟩ : ByteArray), (⟨#[88]⟩ : ByteArray)] : List ByteArray)) (inner := [.string (⟨#[121, 10]⟩ : ByteArray), .string (⟨#[88]⟩ : ByteArray)]) (ok := fun _ => True) (okp := fun _ => True) ?hr ?hp (fun _ hk => hk) trivial (Below.refl _ _) (Nat.le_refl _) (by simp) ?_; (case hd => rfl); (case hg => rfl); (case hr => first | (go_simp; done) | (go_simp; rfl)); (case hp => exact (Reps.one (show Kd.M Kd.string _ _ _ (⟨#[121, 10]⟩ : ByteArray) [.string (⟨#[121, 10]⟩ : ByteArray)] from rfl) (Reps.one (show Kd.M Kd.string _ _ _ (⟨#[88]⟩ : ByteArray) [.string (⟨#[88]⟩ : ByteArray)] from rfl) (Reps.none _ _)))); intro v163 w31 ho32 hb hg_ hnew_; clear hg_ hnew_; (first | rw [← Ny162.out] at ho32 | (simp only [Int.reduceToNat] at ho32; rw [← Ny162.out] at ho32)); have n0_ := Aside0.mk (Kd.R_elder' (kdUp HO161.out) (Kd.R_base ho32) hb); have n1_ := Aside0.mk (Kd.R_lower (Kd.R_new' ho32 (Kd.R_lt (kdUp HO161.out))) (below_size belNow)); have n2_ := Aside0.mk (below_step belNow hb); clear HO161; clear HB; have HO161 := n0_; have HO164 := n1_; have HB := n2_; clear n0_ n1_ n2_; clear hb ho32; obtain ⟨Ao33, co33, eo33⟩ := Kd.R_slice HO161.out; subst eo33; obtain ⟨Ao34, co34, eo34⟩ := Kd.R_slice HO164.out; subst eo34) | ((with_reducible refine gate_callee (f := 13) rfl ?_); refine goesL_ (some 7) rfl rfl Tryd.func13 (by kernel_rfl) rfl #[.slice Ao33 y159.length co33, .slice Ao34 y162.length co34, .int .i64 1] rfl argsOk ?_; (with_reducible refine (intern_Ids.calls k _ _ y159 _ _ y162 1 t165 t166 none _ ?side1 ?side2 ?side3 ?side4 A1.out).mono ?_); (case side1 => repeat (first | exact (Kd.R_reads' HO161.out).2.2 | (with_reducible refine Kd.C_alloc ?_ _) | (with_reducible refine Kd.C_drewN ?_ _) | (with_reducible refine Kd.C_drew ?_))); (case side2 => exact (Kd.R_reads' HO161.out).2.1); (case side3 => repeat (first | exact (Kd.R_reads' HO164.out).2.2 | (with_reducible refine Kd.C_alloc ?_ _) | (with_reducible refine Kd.C_drewN ?_ _) | (with_reducible refine Kd.C_drew ?_))); (case side4 => exact (Kd.R_reads' HO164.out).2.1); rintro e w35 ⟨v168, v170, rfl, ho0, ho1, hb⟩; refine ⟨_, rfl, ?_⟩; have n0_ := Aside0.mk (Kd.R_below (kdUp HO161.out) hb); have n1_ := Aside0.mk (Kd.R_below (kdUp HO164.out) hb); have n2_ := Aside0.mk (Kd.R_lower ho0 (below_size belNow)); have n3_ := Aside0.mk (Kd.R_lower ho1 (below_size belNow)); have n4_ := Aside0.mk (below_step belNow hb); clear HO161; clear HO164; clear HB; have HO161 := n0_; have HO164 := n1_; have HO169 := n2_; have HO171 := n3_; have HB := n4_; clear n0_ n1_ n2_ n3_ n4_; (try clear hb); (try clear hb2); (try clear hk); (try clear hi); (try clear ho0); (try clear ho1); (try simp only [errW_none, errW_some])) | ((with_reducible refine gate_dst (N := 15) rfl ?_); (try (refine gate_guard (by rfl) ?_; dsimp only)); refine Kd.R_lit (Kd.int .i64) _ 3 ?hg (N := 15) ?hd (xs := ([0, 1] : List Int)) (inner := [.int .i64 0, .int .i64 1]) (ok := fun _ => True) (okp := fun _ => True) ?hr ?hp (fun _ hk => hk) trivial (Below.refl _ _) (Nat.le_refl _) (by simp) ?_; (case hd => rfl); (case hg => rfl); (case hr => first | (go_simp; done) | (go_simp; rfl)); (case hp => exact (Reps.one (show Kd.M (Kd.int .i64) _ _ _ 0 [.int .i64 0] from rfl) (Reps.one (show Kd.M (Kd.int .i64) _ _ _ 1 [.int .i64 1] from rfl) (Reps.none _ _)))); intro v174 w36 ho37 hb hg_ hnew_; clear hg_ hnew_; (first | rw [← Ny173.out] at ho37 | (simp only [Int.reduceToNat] at ho37; rw [← Ny173.out] at ho37)); have n0_ := Aside0.mk (Kd.R_below (kdUp HO161.out) hb); have n1_ := Aside0.mk (Kd.R_below (kdUp HO164.out) hb); have n2_ := Aside0.mk (Kd.R_elder' (kdUp HO169.out) (Kd.R_base ho37) hb); have n3_ := Aside0.mk (Kd.R_elder' (kdUp HO171.out) (Kd.R_base ho37) hb); have n4_ := Aside0.mk (Kd.R_lower (Kd.R_new' (Kd.R_new' ho37 (Kd.R_lt (kdUp HO169.out))) (Kd.R_lt (kdUp HO171.out))) (below_size belNow)); have n5_ := Aside0.mk (below_step belNow hb); clear HO161; clear HO164; clear HO169; clear HO171; clear HB; have HO161 := n0_; have HO164 := n1_; have HO169 := n2_; have HO171 := n3_; have HO175 := n4_; have HB := n5_; clear n0_ n1_ n2_ n3_ n4_ n5_; clear hb ho37; obtain ⟨Ao38, co38, eo38⟩ := Kd.R_slice HO169.out; subst eo38; obtain ⟨Ao39, co39, eo39⟩ := Kd.R_slice HO175.out; subst eo39) | (go_at_call 16; (with_reducible refine (selvagelaw05_same.calls k _ _ t165 _ _ y173 true _ ?side1 ?side2 ?side3 ?side4 A2.out).mono ?_); (case side1 => repeat (first | exact (Kd.R_reads' HO169.out).2.2 | (with_reducible refine Kd.C_alloc ?_ _) | (with_reducible refine Kd.C_drewN ?_ _) | (with_reducible refine Kd.C_drew ?_))); (case side2 => exact (Kd.R_reads' HO169.out).2.1); (case side3 => repeat (first | exact (Kd.R_reads' HO175.out).2.2 | (with_reducible refine Kd.C_alloc ?_ _) | (with_reducible refine Kd.C_drewN ?_ _) | (with_reducible refine Kd.C_drew ?_))); (case side4 => exact (Kd.R_reads' HO175.out).2.1); rintro e w' ⟨rfl, ⟨nd, rfl⟩⟩) | ((with_reducible refine gate_dst (N := 20) rfl ?_); (try (refine gate_guard (by rfl) ?_; dsimp only)); refine Kd.R_lit (Kd.int .i64) _ 3 ?hg (N := 20) ?hd (xs := ([1, 2] : List Int)) (inner := [.int .i64 1, .int .i64 2]) (ok := fun _ => True) (okp := fun _ => True) ?hr ?hp (fun _ hk => hk) trivial (Below.refl _ _) (Nat.le_refl _) (by simp) ?_; (case hd => rfl); (case hg => rfl); (case hr => first | (go_simp; done) | (go_simp; rfl)); (case hp => exact (Reps.one (show Kd.M (Kd.int .i64) _ _ _ 1 [.int .i64 1] from rfl) (Reps.one (show Kd.M (Kd.int .i64) _ _ _ 2 [.int .i64 2] from rfl) (Reps.none _ _)))); intro v178 w40 ho41 hb hg_ hnew_; clear hg_ hnew_; (first | rw [← Ny177.out] at ho41 | (simp only [Int.reduceToNat] at ho41; rw [← Ny177.out] at ho41)); have n0_ := Aside0.mk (Kd.R_below (kdUp HO161.out) hb); have n1_ := Aside0.mk (Kd.R_below (kdUp HO164.out) hb); have n2_ := Aside0.mk (Kd.R_elder' (kdUp HO169.out) (Kd.R_base ho41) hb); have n3_ := Aside0.mk (Kd.R_elder' (kdUp HO171.out) (Kd.R_base ho41) hb); have n4_ := Aside0.mk (Kd.R_elder' (kdUp HO175.out) (Kd.R_base ho41) hb); have n5_ := Aside0.mk (Kd.R_lower (Kd.R_new' (Kd.R_new' (Kd.R_new' ho41 (Kd.R_lt (kdUp HO169.out))) (Kd.R_lt (kdUp HO171.out))) (Kd.R_lt (kdUp HO175.out))) (below_size belNow)); have n6_ := Aside0.mk (below_step belNow hb); clear HO161; clear HO164; clear HO169; clear HO171; clear HO175; clear HB; have HO161 := n0_; have HO164 := n1_; have HO169 := n2_; have HO171 := n3_; have HO175 := n4_; have HO179 := n5_; have HB := n6_; clear n0_ n1_ n2_ n3_ n4_ n5_ n6_; clear hb ho41; obtain ⟨Ao42, co42, eo42⟩ := Kd.R_slice HO171.out; subst eo42; obtain ⟨Ao43, co43, eo43⟩ := Kd.R_slice HO179.out; subst eo43) | (go_at_call 16; (with_reducible refine (selvagelaw05_same.calls k _ _ t166 _ _ y177 true _ ?side1 ?side2 ?side3 ?side4 A4.out).mono ?_); (case side1 => repeat (first | exact (Kd.R_reads' HO171.out).2.2 | (with_reducible refine Kd.C_alloc ?_ _) | (with_reducible refine Kd.C_drewN ?_ _) | (with_reducible refine Kd.C_drew ?_))); (case side2 => exact (Kd.R_reads' HO171.out).2.1); (case side3 => repeat (first | exact (Kd.R_reads' HO179.out).2.2 | (with_reducible refine Kd.C_alloc ?_ _) | (with_reducible refine Kd.C_drewN ?_ _) | (with_reducible refine Kd.C_drew ?_))); (case side4 => exact (Kd.R_reads' HO179.out).2.1); rintro e w' ⟨rfl, ⟨nd, rfl⟩⟩) | (go_at_call 8; (with_reducible refine (intern_Key.calls k (⟨#[65, 32, 32, 98, 32, 10]⟩ : ByteArray) 4 t181 _ A6.out).mono ?_); rintro e w44 ⟨rfl, hb⟩; have n0_ := Aside0.mk (Kd.R_below (kdUp HO161.out) hb); have n1_ := Aside0.mk (Kd.R_below (kdUp HO164.out) hb); have n2_ := Aside0.mk (Kd.R_below (kdUp HO169.out) hb); have n3_ := Aside0.mk (Kd.R_below (kdUp HO171.out) hb); have n4_ := Aside0.mk (Kd.R_below (kdUp HO175.out) hb); have n5_ := Aside0.mk (Kd.R_below (kdUp HO179.out) hb); have n6_ := Aside0.mk (below_step belNow hb); clear HO161; clear HO164; clear HO169; clear HO171; clear HO175; clear HO179; clear HB; have HO161 := n0_; have HO164 := n1_; have HO169 := n2_; have HO171 := n3_; have HO175 := n4_; have HO179 := n5_; have HB := n6_; clear n0_ n1_ n2_ n3_ n4_ n5_ n6_; (try clear hb); (try clear hb2); (try clear hk); (try clear hi)) | (go_at_call 10; (with_reducible refine (intern_Blank.calls (⟨#[32, 10]⟩ : ByteArray) false _ A8.out).mono ?_); rintro e w45 ⟨rfl, hb⟩; have n0_ := Aside0.mk (Kd.R_below (kdUp HO161.out) hb); have n1_ := Aside0.mk (Kd.R_below (kdUp HO164.out) hb); have n2_ := Aside0.mk (Kd.R_below (kdUp HO169.out) hb); have n3_ := Aside0.mk (Kd.R_below (kdUp HO171.out) hb); have n4_ := Aside0.mk (Kd.R_below (kdUp HO175.out) hb); have n5_ := Aside0.mk (Kd.R_below (kdUp HO179.out) hb); have n6_ := Aside0.mk (below_step belNow hb); clear HO161; clear HO164; clear HO169; clear HO171; clear HO175; clear HO179; clear HB; have HO161 := n0_; have HO164 := n1_; have HO169 := n2_; have HO171 := n3_; have HO175 := n4_; have HO179 := n5_; have HB := n6_; clear n0_ n1_ n2_ n3_ n4_ n5_ n6_; (try clear hb); (try clear hb2); (try clear hk); (try clear hi)))
      go_ret
      exact ⟨eqEnd, belNow⟩
    ·rw [if_neg c7] at H
     have c7b0 : (t181.toList == ([65, 32, 98, 10] : List UInt8)) = false := beq_eq_false_iff_ne.mpr c7
     have c7b1 : (t181.toList != ([65, 32, 98, 10] : List UInt8)) = true := bne_iff_ne.mpr c7
     obtain rfl := Option.some.inj H
     go_enter Tryd.func12, Tryd.ntmps12
     go_wp2_with (first | ((with_reducible refine gate_dst (N := 5) rfl ?_); (try (refine gate_guard (by rfl) ?_; dsimp only)); refine Kd.R_lit Kd.string _ 9 ?hg (N := 5) ?hd (xs := ([(⟨#[120, 10]⟩ : ByteArray), (⟨#[121, 10]⟩ : ByteArray)] : List ByteArray)) (inner := [.string (⟨#[120, 10]⟩ : ByteArray), .string (⟨#[121, 10]⟩ : ByteArray)]) (ok := fun _ => True) (okp := fun _ => True) ?hr ?hp (fun _ hk => hk) trivial (Below.refl _ _) (Nat.le_refl _) (by simp) ?_; (case hd => rfl); (case hg => rfl); (case hr => first | (go_simp; done) | (go_simp; rfl)); (case hp => exact (Reps.one (show Kd.M Kd.string _ _ _ (⟨#[120, 10]⟩ : ByteArray) [.string (⟨#[120, 10]⟩ : ByteArray)] from rfl) (Reps.one (show Kd.M Kd.string _ _ _ (⟨#[121, 10]⟩ : ByteArray) [.string (⟨#[121, 10]⟩ : ByteArray)] from rfl) (Reps.none _ _)))); intro v160 w46 ho47 hb hg_ hnew_; clear hg_ hnew_; (first | rw [← Ny159.out] at ho47 | (simp only [Int.reduceToNat] at ho47; rw [← Ny159.out] at ho47)); have n0_ := Aside0.mk (Kd.R_lower ho47 (below_size belNow)); have n1_ := Aside0.mk (below_step belNow hb); clear HB; have HO161 := n0_; have HB := n1_; clear n0_ n1_; clear hb ho47) | ((with_reducible refine gate_dst (N := 6) rfl ?_); (try (refine gate_guard (by rfl) ?_; dsimp only)); refine Kd.R_lit Kd.string _ 9 ?hg (N := 6) ?hd (xs := ([(⟨#[121, 10]⟩ : ByteArray), (⟨#[88]⟩ : ByteArray)] : List ByteArray)) (inner := [.string (⟨#[121, 10]⟩ : ByteArray), .string (⟨#[88]⟩ : ByteArray)]) (ok := fun _ => True) (okp := fun _ => True) ?hr ?hp (fun _ hk => hk) trivial (Below.refl _ _) (Nat.le_refl _) (by simp) ?_; (case hd => rfl); (case hg => rfl); (case hr => first | (go_simp; done) | (go_simp; rfl)); (case hp => exact (Reps.one (show Kd.M Kd.string _ _ _ (⟨#[121, 10]⟩ : ByteArray) [.string (⟨#[121, 10]⟩ : ByteArray)] from rfl) (Reps.one (show Kd.M Kd.string _ _ _ (⟨#[88]⟩ : ByteArray) [.string (⟨#[88]⟩ : ByteArray)] from rfl) (Reps.none _ _)))); intro v163 w48 ho49 hb hg_ hnew_; clear hg_ hnew_; (first | rw [← Ny162.out] at ho49 | (simp only [Int.reduceToNat] at ho49; rw [← Ny162.out] at ho49)); have n0_ := Aside0.mk (Kd.R_elder' (kdUp HO161.out) (Kd.R_base ho49) hb); have n1_ := Aside0.mk (Kd.R_lower (Kd.R_new' ho49 (Kd.R_lt (kdUp HO161.out))) (below_size belNow)); have n2_ := Aside0.mk (below_step belNow hb); clear HO161; clear HB; have HO161 := n0_; have HO164 := n1_; have HB := n2_; clear n0_ n1_ n2_; clear hb ho49; obtain ⟨Ao50, co50, eo50⟩ := Kd.R_slice HO161.out; subst eo50; obtain ⟨Ao51, co51, eo51⟩ := Kd.R_slice HO164.out; subst eo51) | ((with_reducible refine gate_callee (f := 13) rfl ?_); refine goesL_ (some 7) rfl rfl Tryd.func13 (by kernel_rfl) rfl #[.slice Ao50 y159.length co50, .slice Ao51 y162.length co51, .int .i64 1] rfl argsOk ?_; (with_reducible refine (intern_Ids.calls k _ _ y159 _ _ y162 1 t165 t166 none _ ?side1 ?side2 ?side3 ?side4 A1.out).mono ?_); (case side1 => repeat (first | exact (Kd.R_reads' HO161.out).2.2 | (with_reducible refine Kd.C_alloc ?_ _) | (with_reducible refine Kd.C_drewN ?_ _) | (with_reducible refine Kd.C_drew ?_))); (case side2 => exact (Kd.R_reads' HO161.out).2.1); (case side3 => repeat (first | exact (Kd.R_reads' HO164.out).2.2 | (with_reducible refine Kd.C_alloc ?_ _) | (with_reducible refine Kd.C_drewN ?_ _) | (with_reducible refine Kd.C_drew ?_))); (case side4 => exact (Kd.R_reads' HO164.out).2.1); rintro e w52 ⟨v168, v170, rfl, ho0, ho1, hb⟩; refine ⟨_, rfl, ?_⟩; have n0_ := Aside0.mk (Kd.R_below (kdUp HO161.out) hb); have n1_ := Aside0.mk (Kd.R_below (kdUp HO164.out) hb); have n2_ := Aside0.mk (Kd.R_lower ho0 (below_size belNow)); have n3_ := Aside0.mk (Kd.R_lower ho1 (below_size belNow)); have n4_ := Aside0.mk (below_step belNow hb); clear HO161; clear HO164; clear HB; have HO161 := n0_; have HO164 := n1_; have HO169 := n2_; have HO171 := n3_; have HB := n4_; clear n0_ n1_ n2_ n3_ n4_; (try clear hb); (try clear hb2); (try clear hk); (try clear hi); (try clear ho0); (try clear ho1); (try simp only [errW_none, errW_some])) | ((with_reducible refine gate_dst (N := 15) rfl ?_); (try (refine gate_guard (by rfl) ?_; dsimp only)); refine Kd.R_lit (Kd.int .i64) _ 3 ?hg (N := 15) ?hd (xs := ([0, 1] : List Int)) (inner := [.int .i64 0, .int .i64 1]) (ok := fun _ => True) (okp := fun _ => True) ?hr ?hp (fun _ hk => hk) trivial (Below.refl _ _) (Nat.le_refl _) (by simp) ?_; (case hd => rfl); (case hg => rfl); (case hr => first | (go_simp; done) | (go_simp; rfl)); (case hp => exact (Reps.one (show Kd.M (Kd.int .i64) _ _ _ 0 [.int .i64 0] from rfl) (Reps.one (show Kd.M (Kd.int .i64) _ _ _ 1 [.int .i64 1] from rfl) (Reps.none _ _)))); intro v174 w53 ho54 hb hg_ hnew_; clear hg_ hnew_; (first | rw [← Ny173.out] at ho54 | (simp only [Int.reduceToNat] at ho54; rw [← Ny173.out] at ho54)); have n0_ := Aside0.mk (Kd.R_below (kdUp HO161.out) hb); have n1_ := Aside0.mk (Kd.R_below (kdUp HO164.out) hb); have n2_ := Aside0.mk (Kd.R_elder' (kdUp HO169.out) (Kd.R_base ho54) hb); have n3_ := Aside0.mk (Kd.R_elder' (kdUp HO171.out) (Kd.R_base ho54) hb); have n4_ := Aside0.mk (Kd.R_lower (Kd.R_new' (Kd.R_new' ho54 (Kd.R_lt (kdUp HO169.out))) (Kd.R_lt (kdUp HO171.out))) (below_size belNow)); have n5_ := Aside0.mk (below_step belNow hb); clear HO161; clear HO164; clear HO169; clear HO171; clear HB; have HO161 := n0_; have HO164 := n1_; have HO169 := n2_; have HO171 := n3_; have HO175 := n4_; have HB := n5_; clear n0_ n1_ n2_ n3_ n4_ n5_; clear hb ho54; obtain ⟨Ao55, co55, eo55⟩ := Kd.R_slice HO169.out; subst eo55; obtain ⟨Ao56, co56, eo56⟩ := Kd.R_slice HO175.out; subst eo56) | (go_at_call 16; (with_reducible refine (selvagelaw05_same.calls k _ _ t165 _ _ y173 true _ ?side1 ?side2 ?side3 ?side4 A2.out).mono ?_); (case side1 => repeat (first | exact (Kd.R_reads' HO169.out).2.2 | (with_reducible refine Kd.C_alloc ?_ _) | (with_reducible refine Kd.C_drewN ?_ _) | (with_reducible refine Kd.C_drew ?_))); (case side2 => exact (Kd.R_reads' HO169.out).2.1); (case side3 => repeat (first | exact (Kd.R_reads' HO175.out).2.2 | (with_reducible refine Kd.C_alloc ?_ _) | (with_reducible refine Kd.C_drewN ?_ _) | (with_reducible refine Kd.C_drew ?_))); (case side4 => exact (Kd.R_reads' HO175.out).2.1); rintro e w' ⟨rfl, ⟨nd, rfl⟩⟩) | ((with_reducible refine gate_dst (N := 20) rfl ?_); (try (refine gate_guard (by rfl) ?_; dsimp only)); refine Kd.R_lit (Kd.int .i64) _ 3 ?hg (N := 20) ?hd (xs := ([1, 2] : List Int)) (inner := [.int .i64 1, .int .i64 2]) (ok := fun _ => True) (okp := fun _ => True) ?hr ?hp (fun _ hk => hk) trivial (Below.refl _ _) (Nat.le_refl _) (by simp) ?_; (case hd => rfl); (case hg => rfl); (case hr => first | (go_simp; done) | (go_simp; rfl)); (case hp => exact (Reps.one (show Kd.M (Kd.int .i64) _ _ _ 1 [.int .i64 1] from rfl) (Reps.one (show Kd.M (Kd.int .i64) _ _ _ 2 [.int .i64 2] from rfl) (Reps.none _ _)))); intro v178 w57 ho58 hb hg_ hnew_; clear hg_ hnew_; (first | rw [← Ny177.out] at ho58 | (simp only [Int.reduceToNat] at ho58; rw [← Ny177.out] at ho58)); have n0_ := Aside0.mk (Kd.R_below (kdUp HO161.out) hb); have n1_ := Aside0.mk (Kd.R_below (kdUp HO164.out) hb); have n2_ := Aside0.mk (Kd.R_elder' (kdUp HO169.out) (Kd.R_base ho58) hb); have n3_ := Aside0.mk (Kd.R_elder' (kdUp HO171.out) (Kd.R_base ho58) hb); have n4_ := Aside0.mk (Kd.R_elder' (kdUp HO175.out) (Kd.R_base ho58) hb); have n5_ := Aside0.mk (Kd.R_lower (Kd.R_new' (Kd.R_new' (Kd.R_new' ho58 (Kd.R_lt (kdUp HO169.out))) (Kd.R_lt (kdUp HO171.out))) (Kd.R_lt (kdUp HO175.out))) (below_size belNow)); have n6_ := Aside0.mk (below_step belNow hb); clear HO161; clear HO164; clear HO169; clear HO171; clear HO175; clear HB; have HO161 := n0_; have HO164 := n1_; have HO169 := n2_; have HO171 := n3_; have HO175 := n4_; have HO179 := n5_; have HB := n6_; clear n0_ n1_ n2_ n3_ n4_ n5_ n6_; clear hb ho58; obtain ⟨Ao59, co59, eo59⟩ := Kd.R_slice HO171.out; subst eo59; obtain ⟨Ao60, co60, eo60⟩ := Kd.R_slice HO179.out; subst eo60) | (go_at_call 16; (with_reducible refine (selvagelaw05_same.calls k _ _ t166 _ _ y177 true _ ?side1 ?side2 ?side3 ?side4 A4.out).mono ?_); (case side1 => repeat (first | exact (Kd.R_reads' HO171.out).2.2 | (with_reducible refine Kd.C_alloc ?_ _) | (with_reducible refine Kd.C_drewN ?_ _) | (with_reducible refine Kd.C_drew ?_))); (case side2 => exact (Kd.R_reads' HO171.out).2.1); (case side3 => repeat (first | exact (Kd.R_reads' HO179.out).2.2 | (with_reducible refine Kd.C_alloc ?_ _) | (with_reducible refine Kd.C_drewN ?_ _) | (with_reducible refine Kd.C_drew ?_))); (case side4 => exact (Kd.R_reads' HO179.out).2.1); rintro e w' ⟨rfl, ⟨nd, rfl⟩⟩) | (go_at_call 8; (with_reducible refine (intern_Key.calls k (⟨#[65, 32, 32, 98, 32, 10]⟩ : ByteArray) 4 t181 _ A6.out).mono ?_); rintro e w61 ⟨rfl, hb⟩; have n0_ := Aside0.mk (Kd.R_below (kdUp HO161.out) hb); have n1_ := Aside0.mk (Kd.R_below (kdUp HO164.out) hb); have n2_ := Aside0.mk (Kd.R_below (kdUp HO169.out) hb); have n3_ := Aside0.mk (Kd.R_below (kdUp HO171.out) hb); have n4_ := Aside0.mk (Kd.R_below (kdUp HO175.out) hb); have n5_ := Aside0.mk (Kd.R_below (kdUp HO179.out) hb); have n6_ := Aside0.mk (below_step belNow hb); clear HO161; clear HO164; clear HO169; clear HO171; clear HO175; clear HO179; clear HB; have HO161 := n0_; have HO164 := n1_; have HO169 := n2_; have HO171 := n3_; have HO175 := n4_; have HO179 := n5_; have HB := n6_; clear n0_ n1_ n2_ n3_ n4_ n5_ n6_; (try clear hb); (try clear hb2); (try clear hk); (try clear hi)))
     go_ret
     exact ⟨eqEnd, belNow⟩
   ·replace c5 := Bool.eq_false_iff.mpr c5
    subst c5
    have H1 : (some false) = some r := by rw [if_neg (show ¬ (false = true) by decide)] at H; exact H
    clear H
    have H := H1
    clear H1
    obtain rfl := Option.some.inj H
    go_enter Tryd.func12, Tryd.ntmps12
    go_wp2_with (first | ((with_reducible refine gate_dst (N := 5) rfl ?_); (try (refine gate_guard (by rfl) ?_; dsimp only)); refine Kd.R_lit Kd.string _ 9 ?hg (N := 5) ?hd (xs := ([(⟨#[120, 10]⟩ : ByteArray), (⟨#[121, 10]⟩ : ByteArray)] : List ByteArray)) (inner := [.string (⟨#[120, 10]⟩ : ByteArray), .string (⟨#[121, 10]⟩ : ByteArray)]) (ok := fun _ => True) (okp := fun _ => True) ?hr ?hp (fun _ hk => hk) trivial (Below.refl _ _) (Nat.le_refl _) (by simp) ?_; (case hd => rfl); (case hg => rfl); (case hr => first | (go_simp; done) | (go_simp; rfl)); (case hp => exact (Reps.one (show Kd.M Kd.string _ _ _ (⟨#[120, 10]⟩ : ByteArray) [.string (⟨#[120, 10]⟩ : ByteArray)] from rfl) (Reps.one (show Kd.M Kd.string _ _ _ (⟨#[121, 10]⟩ : ByteArray) [.string (⟨#[121, 10]⟩ : ByteArray)] from rfl) (Reps.none _ _)))); intro v160 w62 ho63 hb hg_ hnew_; clear hg_ hnew_; (first | rw [← Ny159.out] at ho63 | (simp only [Int.reduceToNat] at ho63; rw [← Ny159.out] at ho63)); have n0_ := Aside0.mk (Kd.R_lower ho63 (below_size belNow)); have n1_ := Aside0.mk (below_step belNow hb); clear HB; have HO161 := n0_; have HB := n1_; clear n0_ n1_; clear hb ho63) | ((with_reducible refine gate_dst (N := 6) rfl ?_); (try (refine gate_guard (by rfl) ?_; dsimp only)); refine Kd.R_lit Kd.string _ 9 ?hg (N := 6) ?hd (xs := ([(⟨#[121, 10]⟩ : ByteArray), (⟨#[88]⟩ : ByteArray)] : List ByteArray)) (inner := [.string (⟨#[121, 10]⟩ : ByteArray), .string (⟨#[88]⟩ : ByteArray)]) (ok := fun _ => True) (okp := fun _ => True) ?hr ?hp (fun _ hk => hk) trivial (Below.refl _ _) (Nat.le_refl _) (by simp) ?_; (case hd => rfl); (case hg => rfl); (case hr => first | (go_simp; done) | (go_simp; rfl)); (case hp => exact (Reps.one (show Kd.M Kd.string _ _ _ (⟨#[121, 10]⟩ : ByteArray) [.string (⟨#[121, 10]⟩ : ByteArray)] from rfl) (Reps.one (show Kd.M Kd.string _ _ _ (⟨#[88]⟩ : ByteArray) [.string (⟨#[88]⟩ : ByteArray)] from rfl) (Reps.none _ _)))); intro v163 w64 ho65 hb hg_ hnew_; clear hg_ hnew_; (first | rw [← Ny162.out] at ho65 | (simp only [Int.reduceToNat] at ho65; rw [← Ny162.out] at ho65)); have n0_ := Aside0.mk (Kd.R_elder' (kdUp HO161.out) (Kd.R_base ho65) hb); have n1_ := Aside0.mk (Kd.R_lower (Kd.R_new' ho65 (Kd.R_lt (kdUp HO161.out))) (below_size belNow)); have n2_ := Aside0.mk (below_step belNow hb); clear HO161; clear HB; have HO161 := n0_; have HO164 := n1_; have HB := n2_; clear n0_ n1_ n2_; clear hb ho65; obtain ⟨Ao66, co66, eo66⟩ := Kd.R_slice HO161.out; subst eo66; obtain ⟨Ao67, co67, eo67⟩ := Kd.R_slice HO164.out; subst eo67) | ((with_reducible refine gate_callee (f := 13) rfl ?_); refine goesL_ (some 7) rfl rfl Tryd.func13 (by kernel_rfl) rfl #[.slice Ao66 y159.length co66, .slice Ao67 y162.length co67, .int .i64 1] rfl argsOk ?_; (with_reducible refine (intern_Ids.calls k _ _ y159 _ _ y162 1 t165 t166 none _ ?side1 ?side2 ?side3 ?side4 A1.out).mono ?_); (case side1 => repeat (first | exact (Kd.R_reads' HO161.out).2.2 | (with_reducible refine Kd.C_alloc ?_ _) | (with_reducible refine Kd.C_drewN ?_ _) | (with_reducible refine Kd.C_drew ?_))); (case side2 => exact (Kd.R_reads' HO161.out).2.1); (case side3 => repeat (first | exact (Kd.R_reads' HO164.out).2.2 | (with_reducible refine Kd.C_alloc ?_ _) | (with_reducible refine Kd.C_drewN ?_ _) | (with_reducible refine Kd.C_drew ?_))); (case side4 => exact (Kd.R_reads' HO164.out).2.1); rintro e w68 ⟨v168, v170, rfl, ho0, ho1, hb⟩; refine ⟨_, rfl, ?_⟩; have n0_ := Aside0.mk (Kd.R_below (kdUp HO161.out) hb); have n1_ := Aside0.mk (Kd.R_below (kdUp HO164.out) hb); have n2_ := Aside0.mk (Kd.R_lower ho0 (below_size belNow)); have n3_ := Aside0.mk (Kd.R_lower ho1 (below_size belNow)); have n4_ := Aside0.mk (below_step belNow hb); clear HO161; clear HO164; clear HB; have HO161 := n0_; have HO164 := n1_; have HO169 := n2_; have HO171 := n3_; have HB := n4_; clear n0_ n1_ n2_ n3_ n4_; (try clear hb); (try clear hb2); (try clear hk); (try clear hi); (try clear ho0); (try clear ho1); (try simp only [errW_none, errW_some])) | ((with_reducible refine gate_dst (N := 15) rfl ?_); (try (refine gate_guard (by rfl) ?_; dsimp only)); refine Kd.R_lit (Kd.int .i64) _ 3 ?hg (N := 15) ?hd (xs := ([0, 1] : List Int)) (inner := [.int .i64 0, .int .i64 1]) (ok := fun _ => True) (okp := fun _ => True) ?hr ?hp (fun _ hk => hk) trivial (Below.refl _ _) (Nat.le_refl _) (by simp) ?_; (case hd => rfl); (case hg => rfl); (case hr => first | (go_simp; done) | (go_simp; rfl)); (case hp => exact (Reps.one (show Kd.M (Kd.int .i64) _ _ _ 0 [.int .i64 0] from rfl) (Reps.one (show Kd.M (Kd.int .i64) _ _ _ 1 [.int .i64 1] from rfl) (Reps.none _ _)))); intro v174 w69 ho70 hb hg_ hnew_; clear hg_ hnew_; (first | rw [← Ny173.out] at ho70 | (simp only [Int.reduceToNat] at ho70; rw [← Ny173.out] at ho70)); have n0_ := Aside0.mk (Kd.R_below (kdUp HO161.out) hb); have n1_ := Aside0.mk (Kd.R_below (kdUp HO164.out) hb); have n2_ := Aside0.mk (Kd.R_elder' (kdUp HO169.out) (Kd.R_base ho70) hb); have n3_ := Aside0.mk (Kd.R_elder' (kdUp HO171.out) (Kd.R_base ho70) hb); have n4_ := Aside0.mk (Kd.R_lower (Kd.R_new' (Kd.R_new' ho70 (Kd.R_lt (kdUp HO169.out))) (Kd.R_lt (kdUp HO171.out))) (below_size belNow)); have n5_ := Aside0.mk (below_step belNow hb); clear HO161; clear HO164; clear HO169; clear HO171; clear HB; have HO161 := n0_; have HO164 := n1_; have HO169 := n2_; have HO171 := n3_; have HO175 := n4_; have HB := n5_; clear n0_ n1_ n2_ n3_ n4_ n5_; clear hb ho70; obtain ⟨Ao71, co71, eo71⟩ := Kd.R_slice HO169.out; subst eo71; obtain ⟨Ao72, co72, eo72⟩ := Kd.R_slice HO175.out; subst eo72) | (go_at_call 16; (with_reducible refine (selvagelaw05_same.calls k _ _ t165 _ _ y173 true _ ?side1 ?side2 ?side3 ?side4 A2.out).mono ?_); (case side1 => repeat (first | exact (Kd.R_reads' HO169.out).2.2 | (with_reducible refine Kd.C_alloc ?_ _) | (with_reducible refine Kd.C_drewN ?_ _) | (with_reducible refine Kd.C_drew ?_))); (case side2 => exact (Kd.R_reads' HO169.out).2.1); (case side3 => repeat (first | exact (Kd.R_reads' HO175.out).2.2 | (with_reducible refine Kd.C_alloc ?_ _) | (with_reducible refine Kd.C_drewN ?_ _) | (with_reducible refine Kd.C_drew ?_))); (case side4 => exact (Kd.R_reads' HO175.out).2.1); rintro e w' ⟨rfl, ⟨nd, rfl⟩⟩) | ((with_reducible refine gate_dst (N := 20) rfl ?_); (try (refine gate_guard (by rfl) ?_; dsimp only)); refine Kd.R_lit (Kd.int .i64) _ 3 ?hg (N := 20) ?hd (xs := ([1, 2] : List Int)) (inner := [.int .i64 1, .int .i64 2]) (ok := fun _ => True) (okp := fun _ => True) ?hr ?hp (fun _ hk => hk) trivial (Below.refl _ _) (Nat.le_refl _) (by simp) ?_; (case hd => rfl); (case hg => rfl); (case hr => first | (go_simp; done) | (go_simp; rfl)); (case hp => exact (Reps.one (show Kd.M (Kd.int .i64) _ _ _ 1 [.int .i64 1] from rfl) (Reps.one (show Kd.M (Kd.int .i64) _ _ _ 2 [.int .i64 2] from rfl) (Reps.none _ _)))); intro v178 w73 ho74 hb hg_ hnew_; clear hg_ hnew_; (first | rw [← Ny177.out] at ho74 | (simp only [Int.reduceToNat] at ho74; rw [← Ny177.out] at ho74)); have n0_ := Aside0.mk (Kd.R_below (kdUp HO161.out) hb); have n1_ := Aside0.mk (Kd.R_below (kdUp HO164.out) hb); have n2_ := Aside0.mk (Kd.R_elder' (kdUp HO169.out) (Kd.R_base ho74) hb); have n3_ := Aside0.mk (Kd.R_elder' (kdUp HO171.out) (Kd.R_base ho74) hb); have n4_ := Aside0.mk (Kd.R_elder' (kdUp HO175.out) (Kd.R_base ho74) hb); have n5_ := Aside0.mk (Kd.R_lower (Kd.R_new' (Kd.R_new' (Kd.R_new' ho74 (Kd.R_lt (kdUp HO169.out))) (Kd.R_lt (kdUp HO171.out))) (Kd.R_lt (kdUp HO175.out))) (below_size belNow)); have n6_ := Aside0.mk (below_step belNow hb); clear HO161; clear HO164; clear HO169; clear HO171; clear HO175; clear HB; have HO161 := n0_; have HO164 := n1_; have HO169 := n2_; have HO171 := n3_; have HO175 := n4_; have HO179 := n5_; have HB := n6_; clear n0_ n1_ n2_ n3_ n4_ n5_ n6_; clear hb ho74; obtain ⟨Ao75, co75, eo75⟩ := Kd.R_slice HO171.out; subst eo75; obtain ⟨Ao76, co76, eo76⟩ := Kd.R_slice HO179.out; subst eo76) | (go_at_call 16; (with_reducible refine (selvagelaw05_same.calls k _ _ t166 _ _ y177 false _ ?side1 ?side2 ?side3 ?side4 A4.out).mono ?_); (case side1 => repeat (first | exact (Kd.R_reads' HO171.out).2.2 | (with_reducible refine Kd.C_alloc ?_ _) | (with_reducible refine Kd.C_drewN ?_ _) | (with_reducible refine Kd.C_drew ?_))); (case side2 => exact (Kd.R_reads' HO171.out).2.1); (case side3 => repeat (first | exact (Kd.R_reads' HO179.out).2.2 | (with_reducible refine Kd.C_alloc ?_ _) | (with_reducible refine Kd.C_drewN ?_ _) | (with_reducible refine Kd.C_drew ?_))); (case side4 => exact (Kd.R_reads' HO179.out).2.1); rintro e w' ⟨rfl, ⟨nd, rfl⟩⟩))
    go_ret
    exact ⟨eqEnd, belNow⟩
  ·replace c3 := Bool.eq_false_iff.mpr c3
   subst c3
   have H1 : (some false) = some r := by rw [if_neg (show ¬ (false = true) by decide)] at H; exact H
   clear H
   have H := H1
   clear H1
   obtain rfl := Option.some.inj H
   go_enter Tryd.func12, Tryd.ntmps12
   go_wp2_with (first | ((with_reducible refine gate_dst (N := 5) rfl ?_); (try (refine gate_guard (by rfl) ?_; dsimp only)); refine Kd.R_lit Kd.string _ 9 ?hg (N := 5) ?hd (xs := ([(⟨#[120, 10]⟩ : ByteArray), (⟨#[121, 10]⟩ : ByteArray)] : List ByteArray)) (inner := [.string (⟨#[120, 10]⟩ : ByteArray), .string (⟨#[121, 10]⟩ : ByteArray)]) (ok := fun _ => True) (okp := fun _ => True) ?hr ?hp (fun _ hk => hk) trivial (Below.refl _ _) (Nat.le_refl _) (by simp) ?_; (case hd => rfl); (case hg => rfl); (case hr => first | (go_simp; done) | (go_simp; rfl)); (case hp => exact (Reps.one (show Kd.M Kd.string _ _ _ (⟨#[120, 10]⟩ : ByteArray) [.string (⟨#[120, 10]⟩ : ByteArray)] from rfl) (Reps.one (show Kd.M Kd.string _ _ _ (⟨#[121, 10]⟩ : ByteArray) [.string (⟨#[121, 10]⟩ : ByteArray)] from rfl) (Reps.none _ _)))); intro v160 w77 ho78 hb hg_ hnew_; clear hg_ hnew_; (first | rw [← Ny159.out] at ho78 | (simp only [Int.reduceToNat] at ho78; rw [← Ny159.out] at ho78)); have n0_ := Aside0.mk (Kd.R_lower ho78 (below_size belNow)); have n1_ := Aside0.mk (below_step belNow hb); clear HB; have HO161 := n0_; have HB := n1_; clear n0_ n1_; clear hb ho78) | ((with_reducible refine gate_dst (N := 6) rfl ?_); (try (refine gate_guard (by rfl) ?_; dsimp only)); refine Kd.R_lit Kd.string _ 9 ?hg (N := 6) ?hd (xs := ([(⟨#[121, 10]⟩ : ByteArray), (⟨#[88]⟩ : ByteArray)] : List ByteArray)) (inner := [.string (⟨#[121, 10]⟩ : ByteArray), .string (⟨#[88]⟩ : ByteArray)]) (ok := fun _ => True) (okp := fun _ => True) ?hr ?hp (fun _ hk => hk) trivial (Below.refl _ _) (Nat.le_refl _) (by simp) ?_; (case hd => rfl); (case hg => rfl); (case hr => first | (go_simp; done) | (go_simp; rfl)); (case hp => exact (Reps.one (show Kd.M Kd.string _ _ _ (⟨#[121, 10]⟩ : ByteArray) [.string (⟨#[121, 10]⟩ : ByteArray)] from rfl) (Reps.one (show Kd.M Kd.string _ _ _ (⟨#[88]⟩ : ByteArray) [.string (⟨#[88]⟩ : ByteArray)] from rfl) (Reps.none _ _)))); intro v163 w79 ho80 hb hg_ hnew_; clear hg_ hnew_; (first | rw [← Ny162.out] at ho80 | (simp only [Int.reduceToNat] at ho80; rw [← Ny162.out] at ho80)); have n0_ := Aside0.mk (Kd.R_elder' (kdUp HO161.out) (Kd.R_base ho80) hb); have n1_ := Aside0.mk (Kd.R_lower (Kd.R_new' ho80 (Kd.R_lt (kdUp HO161.out))) (below_size belNow)); have n2_ := Aside0.mk (below_step belNow hb); clear HO161; clear HB; have HO161 := n0_; have HO164 := n1_; have HB := n2_; clear n0_ n1_ n2_; clear hb ho80; obtain ⟨Ao81, co81, eo81⟩ := Kd.R_slice HO161.out; subst eo81; obtain ⟨Ao82, co82, eo82⟩ := Kd.R_slice HO164.out; subst eo82) | ((with_reducible refine gate_callee (f := 13) rfl ?_); refine goesL_ (some 7) rfl rfl Tryd.func13 (by kernel_rfl) rfl #[.slice Ao81 y159.length co81, .slice Ao82 y162.length co82, .int .i64 1] rfl argsOk ?_; (with_reducible refine (intern_Ids.calls k _ _ y159 _ _ y162 1 t165 t166 none _ ?side1 ?side2 ?side3 ?side4 A1.out).mono ?_); (case side1 => repeat (first | exact (Kd.R_reads' HO161.out).2.2 | (with_reducible refine Kd.C_alloc ?_ _) | (with_reducible refine Kd.C_drewN ?_ _) | (with_reducible refine Kd.C_drew ?_))); (case side2 => exact (Kd.R_reads' HO161.out).2.1); (case side3 => repeat (first | exact (Kd.R_reads' HO164.out).2.2 | (with_reducible refine Kd.C_alloc ?_ _) | (with_reducible refine Kd.C_drewN ?_ _) | (with_reducible refine Kd.C_drew ?_))); (case side4 => exact (Kd.R_reads' HO164.out).2.1); rintro e w83 ⟨v168, v170, rfl, ho0, ho1, hb⟩; refine ⟨_, rfl, ?_⟩; have n0_ := Aside0.mk (Kd.R_below (kdUp HO161.out) hb); have n1_ := Aside0.mk (Kd.R_below (kdUp HO164.out) hb); have n2_ := Aside0.mk (Kd.R_lower ho0 (below_size belNow)); have n3_ := Aside0.mk (Kd.R_lower ho1 (below_size belNow)); have n4_ := Aside0.mk (below_step belNow hb); clear HO161; clear HO164; clear HB; have HO161 := n0_; have HO164 := n1_; have HO169 := n2_; have HO171 := n3_; have HB := n4_; clear n0_ n1_ n2_ n3_ n4_; (try clear hb); (try clear hb2); (try clear hk); (try clear hi); (try clear ho0); (try clear ho1); (try simp only [errW_none, errW_some])) | ((with_reducible refine gate_dst (N := 15) rfl ?_); (try (refine gate_guard (by rfl) ?_; dsimp only)); refine Kd.R_lit (Kd.int .i64) _ 3 ?hg (N := 15) ?hd (xs := ([0, 1] : List Int)) (inner := [.int .i64 0, .int .i64 1]) (ok := fun _ => True) (okp := fun _ => True) ?hr ?hp (fun _ hk => hk) trivial (Below.refl _ _) (Nat.le_refl _) (by simp) ?_; (case hd => rfl); (case hg => rfl); (case hr => first | (go_simp; done) | (go_simp; rfl)); (case hp => exact (Reps.one (show Kd.M (Kd.int .i64) _ _ _ 0 [.int .i64 0] from rfl) (Reps.one (show Kd.M (Kd.int .i64) _ _ _ 1 [.int .i64 1] from rfl) (Reps.none _ _)))); intro v174 w84 ho85 hb hg_ hnew_; clear hg_ hnew_; (first | rw [← Ny173.out] at ho85 | (simp only [Int.reduceToNat] at ho85; rw [← Ny173.out] at ho85)); have n0_ := Aside0.mk (Kd.R_below (kdUp HO161.out) hb); have n1_ := Aside0.mk (Kd.R_below (kdUp HO164.out) hb); have n2_ := Aside0.mk (Kd.R_elder' (kdUp HO169.out) (Kd.R_base ho85) hb); have n3_ := Aside0.mk (Kd.R_elder' (kdUp HO171.out) (Kd.R_base ho85) hb); have n4_ := Aside0.mk (Kd.R_lower (Kd.R_new' (Kd.R_new' ho85 (Kd.R_lt (kdUp HO169.out))) (Kd.R_lt (kdUp HO171.out))) (below_size belNow)); have n5_ := Aside0.mk (below_step belNow hb); clear HO161; clear HO164; clear HO169; clear HO171; clear HB; have HO161 := n0_; have HO164 := n1_; have HO169 := n2_; have HO171 := n3_; have HO175 := n4_; have HB := n5_; clear n0_ n1_ n2_ n3_ n4_ n5_; clear hb ho85; obtain ⟨Ao86, co86, eo86⟩ := Kd.R_slice HO169.out; subst eo86; obtain ⟨Ao87, co87, eo87⟩ := Kd.R_slice HO175.out; subst eo87) | (go_at_call 16; (with_reducible refine (selvagelaw05_same.calls k _ _ t165 _ _ y173 false _ ?side1 ?side2 ?side3 ?side4 A2.out).mono ?_); (case side1 => repeat (first | exact (Kd.R_reads' HO169.out).2.2 | (with_reducible refine Kd.C_alloc ?_ _) | (with_reducible refine Kd.C_drewN ?_ _) | (with_reducible refine Kd.C_drew ?_))); (case side2 => exact (Kd.R_reads' HO169.out).2.1); (case side3 => repeat (first | exact (Kd.R_reads' HO175.out).2.2 | (with_reducible refine Kd.C_alloc ?_ _) | (with_reducible refine Kd.C_drewN ?_ _) | (with_reducible refine Kd.C_drew ?_))); (case side4 => exact (Kd.R_reads' HO175.out).2.1); rintro e w' ⟨rfl, ⟨nd, rfl⟩⟩))
   go_ret
   exact ⟨eqEnd, belNow⟩
 ·have H1 : (some false) = some r := by rw [if_neg (show ¬ (some q172).isNone = true by simp)] at H; exact H
  clear H
  have H := H1
  clear H1
  try simp only [errW_none, errW_some]
  obtain rfl := Option.some.inj H
  go_enter Tryd.func12, Tryd.ntmps12
  go_wp2_with (first | ((with_reducible refine gate_dst (N := 5) rfl ?_); (try (refine gate_guard (by rfl) ?_; dsimp only)); refine Kd.R_lit Kd.string _ 9 ?hg (N := 5) ?hd (xs := ([(⟨#[120, 10]⟩ : ByteArray), (⟨#[121, 10]⟩ : ByteArray)] : List ByteArray)) (inner := [.string (⟨#[120, 10]⟩ : ByteArray), .string (⟨#[121, 10]⟩ : ByteArray)]) (ok := fun _ => True) (okp := fun _ => True) ?hr ?hp (fun _ hk => hk) trivial (Below.refl _ _) (Nat.le_refl _) (by simp) ?_; (case hd => rfl); (case hg => rfl); (case hr => first | (go_simp; done) | (go_simp; rfl)); (case hp => exact (Reps.one (show Kd.M Kd.string _ _ _ (⟨#[120, 10]⟩ : ByteArray) [.string (⟨#[120, 10]⟩ : ByteArray)] from rfl) (Reps.one (show Kd.M Kd.string _ _ _ (⟨#[121, 10]⟩ : ByteArray) [.string (⟨#[121, 10]⟩ : ByteArray)] from rfl) (Reps.none _ _)))); intro v160 w88 ho89 hb hg_ hnew_; clear hg_ hnew_; (first | rw [← Ny159.out] at ho89 | (simp only [Int.reduceToNat] at ho89; rw [← Ny159.out] at ho89)); have n0_ := Aside0.mk (Kd.R_lower ho89 (below_size belNow)); have n1_ := Aside0.mk (below_step belNow hb); clear HB; have HO161 := n0_; have HB := n1_; clear n0_ n1_; clear hb ho89) | ((with_reducible refine gate_dst (N := 6) rfl ?_); (try (refine gate_guard (by rfl) ?_; dsimp only)); refine Kd.R_lit Kd.string _ 9 ?hg (N := 6) ?hd (xs := ([(⟨#[121, 10]⟩ : ByteArray), (⟨#[88]⟩ : ByteArray)] : List ByteArray)) (inner := [.string (⟨#[121, 10]⟩ : ByteArray), .string (⟨#[88]⟩ : ByteArray)]) (ok := fun _ => True) (okp := fun _ => True) ?hr ?hp (fun _ hk => hk) trivial (Below.refl _ _) (Nat.le_refl _) (by simp) ?_; (case hd => rfl); (case hg => rfl); (case hr => first | (go_simp; done) | (go_simp; rfl)); (case hp => exact (Reps.one (show Kd.M Kd.string _ _ _ (⟨#[121, 10]⟩ : ByteArray) [.string (⟨#[121, 10]⟩ : ByteArray)] from rfl) (Reps.one (show Kd.M Kd.string _ _ _ (⟨#[88]⟩ : ByteArray) [.string (⟨#[88]⟩ : ByteArray)] from rfl) (Reps.none _ _)))); intro v163 w90 ho91 hb hg_ hnew_; clear hg_ hnew_; (first | rw [← Ny162.out] at ho91 | (simp only [Int.reduceToNat] at ho91; rw [← Ny162.out] at ho91)); have n0_ := Aside0.mk (Kd.R_elder' (kdUp HO161.out) (Kd.R_base ho91) hb); have n1_ := Aside0.mk (Kd.R_lower (Kd.R_new' ho91 (Kd.R_lt (kdUp HO161.out))) (below_size belNow)); have n2_ := Aside0.mk (below_step belNow hb); clear HO161; clear HB; have HO161 := n0_; have HO164 := n1_; have HB := n2_; clear n0_ n1_ n2_; clear hb ho91; obtain ⟨Ao92, co92, eo92⟩ := Kd.R_slice HO161.out; subst eo92; obtain ⟨Ao93, co93, eo93⟩ := Kd.R_slice HO164.out; subst eo93) | ((with_reducible refine gate_callee (f := 13) rfl ?_); refine goesL_ (some 7) rfl rfl Tryd.func13 (by kernel_rfl) rfl #[.slice Ao92 y159.length co92, .slice Ao93 y162.length co93, .int .i64 1] rfl argsOk ?_; (with_reducible refine (intern_Ids.calls k _ _ y159 _ _ y162 1 t165 t166 (some q172) _ ?side1 ?side2 ?side3 ?side4 A1.out).mono ?_); (case side1 => repeat (first | exact (Kd.R_reads' HO161.out).2.2 | (with_reducible refine Kd.C_alloc ?_ _) | (with_reducible refine Kd.C_drewN ?_ _) | (with_reducible refine Kd.C_drew ?_))); (case side2 => exact (Kd.R_reads' HO161.out).2.1); (case side3 => repeat (first | exact (Kd.R_reads' HO164.out).2.2 | (with_reducible refine Kd.C_alloc ?_ _) | (with_reducible refine Kd.C_drewN ?_ _) | (with_reducible refine Kd.C_drew ?_))); (case side4 => exact (Kd.R_reads' HO164.out).2.1); rintro e w94 ⟨v168, v170, rfl, ho0, ho1, hb⟩; refine ⟨_, rfl, ?_⟩; have n0_ := Aside0.mk (Kd.R_below (kdUp HO161.out) hb); have n1_ := Aside0.mk (Kd.R_below (kdUp HO164.out) hb); have n2_ := Aside0.mk (Kd.R_lower ho0 (below_size belNow)); have n3_ := Aside0.mk (Kd.R_lower ho1 (below_size belNow)); have n4_ := Aside0.mk (below_step belNow hb); clear HO161; clear HO164; clear HB; have HO161 := n0_; have HO164 := n1_; have HO169 := n2_; have HO171 := n3_; have HB := n4_; clear n0_ n1_ n2_ n3_ n4_; (try clear hb); (try clear hb2); (try clear hk); (try clear hi); (try clear ho0); (try clear ho1); (try simp only [errW_none, errW_some])))
  go_ret
  exact ⟨eqEnd, belNow⟩
def selvagelaw05_InternKeys.f (k : Nat) (a0 : ByteArray) (a1 : Int) : Option (Bool) := (intern_Key.f k a0 a1).bind fun t184 => ((selvageref05_Key.f k a0 a1).bind fun t185 => (if t184.toList = t185.toList then ((intern_Blank.f a0).bind fun t186 => ((selvageref05_Blank.f k a0).bind fun t187 => (if (t186 == t187) = true then ((selvagelaw05_sure.f k).bind fun t188 => (some t188)) else (some false)))) else (some false)))
set_option maxHeartbeats 8000000 in
set_option maxRecDepth 100000 in
theorem selvagelaw05_InternKeys.calls (k : Nat) (a0 : ByteArray) (a1 : Int) (r : Bool) (w : World) (h : selvagelaw05_InternKeys.f k a0 a1 = some r) :
  Calls Tryd.prog 3 #[.string a0, .int .i64 a1] w fun e w' => e = .returned (.bool r) ∧ Below w.heap.size w w' := by
 have HB := Aside0.mk (Below.refl w.heap.size w)
 have H : ((intern_Key.f k a0 a1).bind fun t184 => ((selvageref05_Key.f k a0 a1).bind fun t185 => (if t184.toList = t185.toList then ((intern_Blank.f a0).bind fun t186 => ((selvageref05_Blank.f k a0).bind fun t187 => (if (t186 == t187) = true then ((selvagelaw05_sure.f k).bind fun t188 => (some t188)) else (some false)))) else (some false)))) = some r := h
 clear h
 replace H := Option.bind_eq_some_iff.mp H
 obtain ⟨t184, A30, H⟩ := H
 replace H : ((selvageref05_Key.f k a0 a1).bind fun t185 => (if t184.toList = t185.toList then ((intern_Blank.f a0).bind fun t186 => ((selvageref05_Blank.f k a0).bind fun t187 => (if (t186 == t187) = true then ((selvagelaw05_sure.f k).bind fun t188 => (some t188)) else (some false)))) else (some false))) = some r := H
 have A3 := Aside0.mk A30
 clear A30
 replace H := Option.bind_eq_some_iff.mp H
 obtain ⟨t185, A40, H⟩ := H
 replace H : (if t184.toList = t185.toList then ((intern_Blank.f a0).bind fun t186 => ((selvageref05_Blank.f k a0).bind fun t187 => (if (t186 == t187) = true then ((selvagelaw05_sure.f k).bind fun t188 => (some t188)) else (some false)))) else (some false)) = some r := H
 have A4 := Aside0.mk A40
 clear A40
 by_cases c5 : t184.toList = t185.toList
 ·rw [if_pos c5] at H
  have c5b0 : (t184.toList == t185.toList) = true := beq_iff_eq.mpr c5
  have c5b1 : (t184.toList != t185.toList) = false := bne_eq_false_iff_eq.mpr c5
  clear c5
  replace H := Option.bind_eq_some_iff.mp H
  obtain ⟨t186, A60, H⟩ := H
  replace H : ((selvageref05_Blank.f k a0).bind fun t187 => (if (t186 == t187) = true then ((selvagelaw05_sure.f k).bind fun t188 => (some t188)) else (some false))) = some r := H
  have A6 := Aside0.mk A60
  clear A60
  replace H := Option.bind_eq_some_iff.mp H
  obtain ⟨t187, A70, H⟩ := H
  replace H : (if (t186 == t187) = true then ((selvagelaw05_sure.f k).bind fun t188 => (some t188)) else (some false)) = some r := H
  have A7 := Aside0.mk A70
  clear A70
  by_cases c8 : (t186 == t187) = true
  ·rw [if_pos c8] at H
   have c8b0 : (t186 == t187) = true := c8
   (try (have c8b1 : decide (t186 = t187) = true := by simpa using c8))
   (try (have c8b2 : (t186 == t187) = true := by simpa using c8))
   clear c8
   replace H := Option.bind_eq_some_iff.mp H
   obtain ⟨t188, A90, H⟩ := H
   replace H : (some t188) = some r := H
   have A9 := Aside0.mk A90
   clear A90
   obtain rfl := Option.some.inj H
   go_enter Tryd.func3, Tryd.ntmps3
   go_wp2_with (first | ((with_reducible refine gate_callee (f := 8) rfl ?_); refine goesL_ (some 7) rfl rfl Tryd.func8 (by kernel_rfl) rfl #[.string a0, .int .i64 a1] rfl argsOk ?_; (with_reducible refine (intern_Key.calls k a0 a1 t184 _ A3.out).mono ?_); rintro e w10 ⟨rfl, hb⟩; refine ⟨_, rfl, ?_⟩; have n0_ := Aside0.mk (below_step belNow hb); clear HB; have HB := n0_; clear n0_; (try clear hb); (try clear hb2); (try clear hk); (try clear hi)) | ((with_reducible refine gate_callee (f := 9) rfl ?_); refine goesL_ (some 10) rfl rfl Tryd.func9 (by kernel_rfl) rfl #[.string a0, .int .i64 a1] rfl argsOk ?_; (with_reducible refine (selvageref05_Key.calls k a0 a1 t185 _ A4.out).mono ?_); rintro e w11 ⟨rfl, hb⟩; refine ⟨_, rfl, ?_⟩; have n0_ := Aside0.mk (below_step belNow hb); clear HB; have HB := n0_; clear n0_; (try clear hb); (try clear hb2); (try clear hk); (try clear hi)) | (go_at_call 10; (with_reducible refine (intern_Blank.calls a0 t186 _ A6.out).mono ?_); rintro e w12 ⟨rfl, hb⟩; have n0_ := Aside0.mk (below_step belNow hb); clear HB; have HB := n0_; clear n0_; (try clear hb); (try clear hb2); (try clear hk); (try clear hi)) | (go_at_call 11; (with_reducible refine (selvageref05_Blank.calls k a0 t187 _ A7.out).mono ?_); rintro e w' ⟨rfl, ⟨nd, rfl⟩⟩) | (go_at_call 12; (with_reducible refine (selvagelaw05_sure.calls k  t188 _ A9.out).mono ?_); rintro e w13 ⟨rfl, hb⟩; have n0_ := Aside0.mk (below_step belNow hb); clear HB; have HB := n0_; clear n0_; (try clear hb); (try clear hb2); (try clear hk); (try clear hi)))
   go_ret
   exact ⟨eqEnd, belNow⟩
  ·rw [if_neg c8] at H
   have c8b0 : (t186 == t187) = false := by simpa using c8
   (try (have c8b1 : decide (t186 = t187) = false := by simpa using c8))
   (try (have c8b2 : (t186 == t187) = false := by simpa using c8))
   (try (have c8b3 : ¬ (t186 = t187) := by simpa using c8))
   clear c8
   obtain rfl := Option.some.inj H
   go_enter Tryd.func3, Tryd.ntmps3
   go_wp2_with (first | ((with_reducible refine gate_callee (f := 8) rfl ?_); refine goesL_ (some 7) rfl rfl Tryd.func8 (by kernel_rfl) rfl #[.string a0, .int .i64 a1] rfl argsOk ?_; (with_reducible refine (intern_Key.calls k a0 a1 t184 _ A3.out).mono ?_); rintro e w14 ⟨rfl, hb⟩; refine ⟨_, rfl, ?_⟩; have n0_ := Aside0.mk (below_step belNow hb); clear HB; have HB := n0_; clear n0_; (try clear hb); (try clear hb2); (try clear hk); (try clear hi)) | ((with_reducible refine gate_callee (f := 9) rfl ?_); refine goesL_ (some 10) rfl rfl Tryd.func9 (by kernel_rfl) rfl #[.string a0, .int .i64 a1] rfl argsOk ?_; (with_reducible refine (selvageref05_Key.calls k a0 a1 t185 _ A4.out).mono ?_); rintro e w15 ⟨rfl, hb⟩; refine ⟨_, rfl, ?_⟩; have n0_ := Aside0.mk (below_step belNow hb); clear HB; have HB := n0_; clear n0_; (try clear hb); (try clear hb2); (try clear hk); (try clear hi)) | (go_at_call 10; (with_reducible refine (intern_Blank.calls a0 t186 _ A6.out).mono ?_); rintro e w16 ⟨rfl, hb⟩; have n0_ := Aside0.mk (below_step belNow hb); clear HB; have HB := n0_; clear n0_; (try clear hb); (try clear hb2); (try clear hk); (try clear hi)) | (go_at_call 11; (with_reducible refine (selvageref05_Blank.calls k a0 t187 _ A7.out).mono ?_); rintro e w' ⟨rfl, ⟨nd, rfl⟩⟩))
   go_ret
   exact ⟨eqEnd, belNow⟩
 ·rw [if_neg c5] at H
  have c5b0 : (t184.toList == t185.toList) = false := beq_eq_false_iff_ne.mpr c5
  have c5b1 : (t184.toList != t185.toList) = true := bne_iff_ne.mpr c5
  obtain rfl := Option.some.inj H
  go_enter Tryd.func3, Tryd.ntmps3
  go_wp2_with (first | ((with_reducible refine gate_callee (f := 8) rfl ?_); refine goesL_ (some 7) rfl rfl Tryd.func8 (by kernel_rfl) rfl #[.string a0, .int .i64 a1] rfl argsOk ?_; (with_reducible refine (intern_Key.calls k a0 a1 t184 _ A3.out).mono ?_); rintro e w17 ⟨rfl, hb⟩; refine ⟨_, rfl, ?_⟩; have n0_ := Aside0.mk (below_step belNow hb); clear HB; have HB := n0_; clear n0_; (try clear hb); (try clear hb2); (try clear hk); (try clear hi)) | ((with_reducible refine gate_callee (f := 9) rfl ?_); refine goesL_ (some 10) rfl rfl Tryd.func9 (by kernel_rfl) rfl #[.string a0, .int .i64 a1] rfl argsOk ?_; (with_reducible refine (selvageref05_Key.calls k a0 a1 t185 _ A4.out).mono ?_); rintro e w18 ⟨rfl, hb⟩; refine ⟨_, rfl, ?_⟩; have n0_ := Aside0.mk (below_step belNow hb); clear HB; have HB := n0_; clear n0_; (try clear hb); (try clear hb2); (try clear hk); (try clear hi)))
  go_ret
  exact ⟨eqEnd, belNow⟩
end Go.Proofs.YtpfhgaaphaalgaaDoor.Pp
