-- Printed by this session's pp.py over the kit's printer, out of the translation. Lean checks it.
import Derived.Test.YtfempodohmhhlaaDoorESq
import Derived.Test.YtfempodohmhhlaaDoorPp0
import Derived.Test.YtfempodohmhhlaaDoorPp10
namespace Go.Proofs.YtfempodohmhhlaaDoor.Pp
open Go.RowKit Go.Proofs.YtfempodohmhhlaaDoor.Ext Go.Proofs.YtfempodohmhhlaaDoorW.PrintWords Go.Proofs.YtfempodohmhhlaaDoorW.PrintLast Go.Proofs.YtfempodohmhhlaaDoorW.PrintMore
attribute [local go_sem] max2_int min2_int max_two min_two max_three min_three max_four min_four   -- for this text's walks alone
set_option linter.unusedVariables false
set_option linter.unusedSimpArgs false
mutual
def selvageref02_read.j0 : Nat → ByteArray → Bool → Option (Int × Int)
 | 0, _, _ => none
 | k + 1, x0, x12 => if x12 = true then (some (0, 0)) else (selvageref02_read.l0 k x0 0)
def selvageref02_read.l0 : Nat → ByteArray → Int → Option (Int × Int)
 | 0, _, _ => none
 | k + 1, x0, x4 => if x4 < 9 then (if 0 ≤ x4 then (if 1 < (x0.size : Int) then (if (bt (⟨#[97, 98, 116, 110, 118, 102, 114, 34, 92]⟩ : ByteArray) x4) = (bt x0 1) then (some (bt (⟨#[7, 8, 9, 10, 11, 12, 13, 34, 92]⟩ : ByteArray) x4, 2)) else (selvageref02_read.l0 k x0 (wrap64 (x4 + 1)))) else (none)) else (none)) else (if (x0.size : Int) < 4 then (selvageref02_read.j2 k x0 true) else (if 1 < (x0.size : Int) then ((selvageref02_octal.f (bt x0 1)).bind fun t254 => (if t254 < 0 then (selvageref02_read.j2 k x0 true) else (if t254 > 3 then (selvageref02_read.j2 k x0 true) else (if 2 < (x0.size : Int) then ((selvageref02_octal.f (bt x0 2)).bind fun t255 => (if t255 < 0 then (selvageref02_read.j2 k x0 true) else (if 3 < (x0.size : Int) then ((selvageref02_octal.f (bt x0 3)).bind fun t256 => (selvageref02_read.j2 k x0 (decide (t256 < 0)))) else (none)))) else (none))))) else (none)))
def selvageref02_read.j2 : Nat → ByteArray → Bool → Option (Int × Int)
 | 0, _, _ => none
 | k + 1, x0, x50 => if x50 = true then (some (0, 0)) else (if 1 < (x0.size : Int) then ((selvageref02_octal.f (bt x0 1)).bind fun t257 => (if 2 < (x0.size : Int) then ((selvageref02_octal.f (bt x0 2)).bind fun t258 => (if 3 < (x0.size : Int) then ((selvageref02_octal.f (bt x0 3)).bind fun t259 => (some ((wrap64 ((wrap64 ((wrap64 (t257 * 64)) + (wrap64 (t258 * 8)))) + t259)) % 256, 4))) else (none))) else (none))) else (none))
end
def selvageref02_read.f (k : Nat) (a0 : ByteArray) : Option (Int × Int) := if (a0.size : Int) < 2 then (selvageref02_read.j0 k a0 true) else (if 0 < (a0.size : Int) then (selvageref02_read.j0 k a0 ((bt a0 0) != 92)) else (none))
theorem selvageref02_read.mono_l : ∀ k, (∀ y0 y1, LeO (selvageref02_read.j0 k y0 y1) (selvageref02_read.j0 (k + 1) y0 y1)) ∧ (∀ y0 y1, LeO (selvageref02_read.l0 k y0 y1) (selvageref02_read.l0 (k + 1) y0 y1)) ∧ (∀ y0 y1, LeO (selvageref02_read.j2 k y0 y1) (selvageref02_read.j2 (k + 1) y0 y1))
 | 0 => ⟨fun _ _ r h => by simp [selvageref02_read.j0] at h, fun _ _ r h => by simp [selvageref02_read.l0] at h, fun _ _ r h => by simp [selvageref02_read.j2] at h⟩
 | k + 1 => by
  obtain ⟨ih0, ih1, ih2⟩ := selvageref02_read.mono_l k
  refine ⟨?_, ?_, ?_⟩
  ·intro y0 y1
   unfold selvageref02_read.j0
   repeat' first
   | (with_reducible exact ih0 _ _)
   | (with_reducible exact ih1 _ _)
   | (with_reducible exact ih2 _ _)
   | (with_reducible exact LeO.refl _)
   | (with_reducible exact LeO.none _)
   | (with_reducible refine LeO.ite ?_ ?_)
   | (with_reducible refine LeO.bind ?_ (fun _ => ?_))
   | exact ih0 _ _
   | exact ih1 _ _
   | exact ih2 _ _
   | exact LeO.none _
   | refine LeO.ite ?_ ?_
   | refine LeO.bind ?_ (fun _ => ?_)
  ·intro y0 y1
   unfold selvageref02_read.l0
   repeat' first
   | (with_reducible exact ih0 _ _)
   | (with_reducible exact ih1 _ _)
   | (with_reducible exact ih2 _ _)
   | (with_reducible exact LeO.refl _)
   | (with_reducible exact LeO.none _)
   | (with_reducible refine LeO.ite ?_ ?_)
   | (with_reducible refine LeO.bind ?_ (fun _ => ?_))
   | exact ih0 _ _
   | exact ih1 _ _
   | exact ih2 _ _
   | exact LeO.none _
   | refine LeO.ite ?_ ?_
   | refine LeO.bind ?_ (fun _ => ?_)
  ·intro y0 y1
   unfold selvageref02_read.j2
   repeat' first
   | (with_reducible exact ih0 _ _)
   | (with_reducible exact ih1 _ _)
   | (with_reducible exact ih2 _ _)
   | (with_reducible exact LeO.refl _)
   | (with_reducible exact LeO.none _)
   | (with_reducible refine LeO.ite ?_ ?_)
   | (with_reducible refine LeO.bind ?_ (fun _ => ?_))
   | exact ih0 _ _
   | exact ih1 _ _
   | exact ih2 _ _
   | exact LeO.none _
   | refine LeO.ite ?_ ?_
   | refine LeO.bind ?_ (fun _ => ?_)
theorem selvageref02_read.mono : ∀ a0 k, LeO (selvageref02_read.f k a0) (selvageref02_read.f (k + 1) a0) := by
 intro a0 k
 obtain ⟨ih0, ih1, ih2⟩ := selvageref02_read.mono_l k
 unfold selvageref02_read.f
 repeat' first
   | (with_reducible exact ih0 _ _)
   | (with_reducible exact ih1 _ _)
   | (with_reducible exact ih2 _ _)
   | (with_reducible exact LeO.refl _)
   | (with_reducible exact LeO.none _)
   | (with_reducible refine LeO.ite ?_ ?_)
   | (with_reducible refine LeO.bind ?_ (fun _ => ?_))
   | exact ih0 _ _
   | exact ih1 _ _
   | exact ih2 _ _
   | exact LeO.none _
   | refine LeO.ite ?_ ?_
   | refine LeO.bind ?_ (fun _ => ?_)
set_option maxHeartbeats 8000000 in
set_option maxRecDepth 100000 in
theorem selvageref02_read.calls (k : Nat) (a0 : ByteArray) (r1 : Int) (r2 : Int) (w : World) (h : selvageref02_read.f k a0 = some (r1, r2)) :
  Calls Tryd.prog 65 #[.string a0] w fun e w' => e = .returned (.tuple #[.int .u8 r1, .int .i64 r2]) ∧ Drawn0 w w' := by
 have H : (if (a0.size : Int) < 2 then (selvageref02_read.j0 k a0 true) else (if 0 < (a0.size : Int) then (selvageref02_read.j0 k a0 ((bt a0 0) != 92)) else (none))) = some (r1, r2) := h
 clear h
 have HC2 := Aside0.mk H
 clear H
 go_enter Tryd.func65, Tryd.ntmps65
 go_upto_region 1 with (fail)
 repeat (go_quiet (fail); go_upto_region 1 with (fail))
 go_cut [12] (fun v12 wc => ∃ (kq : Nat) (x12_1 : Bool), v12 = .bool x12_1 ∧ Aside0 (selvageref02_read.j0 kq a0 x12_1 = some (r1, r2)) ∧ Aside0 (kq ≤ k) ∧ Drawn0 w wc)
 case first =>
  have H := HC2.out
  clear HC2
  by_cases c3 : (a0.size : Int) < 2
  ·rw [if_pos c3] at H
   have c3b0 : decide ((a0.size : Int) < 2) = true := decide_eq_true c3
   have c3b1 : decide (a0.size < 2) = true := decide_eq_true (by omega)
   clear c3
   (first | rw [c3b0] | (simp only [i64_w, i32_w]; rw [c3b0]) | skip)
   have H' := Aside0.mk H
   clear H
   go_wp2
   repeat (go_quiet (fail); try go_wp2)
   go_meet
   case rel => exact ⟨_, (true), eqNow, H', ⟨by first | omega | exact Nat.le_refl _⟩, drawnNow⟩
  ·rw [if_neg c3] at H
   have c3b0 : decide ((a0.size : Int) < 2) = false := decide_eq_false c3
   have c3b1 : decide (a0.size < 2) = false := decide_eq_false (by omega)
   clear c3
   (first | rw [c3b0] | (simp only [i64_w, i32_w]; rw [c3b0]) | skip)
   by_cases c4 : 0 < (a0.size : Int)
   ·rw [if_pos c4] at H
    have c4b0 : decide (0 < (a0.size : Int)) = true := decide_eq_true c4
    have c4b1 : decide (0 < a0.size) = true := decide_eq_true (by omega)
    clear c4
    have H' := Aside0.mk H
    clear H
    have p5 : 0 ≤ (0 : Int) := (by omega)
    have q5 : 0 < a0.size := (by have : (0 : Int) < (a0.size : Int) := ofDec; omega)
    have hx5 : ∀ h : 0 < a0.size, ((a0[0]'h).toNat : Int) = bt a0 0 := bt_at a0 0
    clear p5
    have qi5 : (0 < (a0.size : Int)) = True := eq_true (ofDec)
    replace q5 := eq_true q5
    go_wp2
    repeat (go_quiet (fail); try go_wp2)
    go_meet
    case rel => exact ⟨_, (((bt a0 0) != 92)), eqNow, H', ⟨by first | omega | exact Nat.le_refl _⟩, drawnNow⟩
   ·rw [if_neg c4] at H
    exact absurd H (by simp)
 case rest =>
  clear HC2
  try clear p2
  try clear c3
  try clear c3b0
  try clear c3b1
  try clear c4
  try clear c4b0
  try clear c4b1
  try clear p5
  try clear q5
  try clear hx5
  try clear qi5
  try clear p5
  try clear q5
  obtain ⟨kq, x12_1, rfl, HA, HJ1, ⟨mc1, rfl⟩⟩ := hcut
  cases kq with
  | zero => exact absurd HA.out (by simp [selvageref02_read.j0])
  | succ kj1 =>
   have H := HA.out
   clear HA
   simp only [selvageref02_read.j0] at H
   by_cases c6 : x12_1 = true
   ·subst c6
    have H1 : (some (0, 0)) = some (r1, r2) := by rw [if_pos rfl] at H; exact H
    clear H
    have H := H1
    clear H1
    simp only [Option.some.injEq, Prod.mk.injEq] at H
    obtain ⟨rfl, rfl⟩ := H
    go_wp2
    repeat (go_quiet (fail); try go_wp2)
    go_ret2
    exact ⟨eqFin, drawnNow⟩
   ·replace c6 := Bool.eq_false_iff.mpr c6
    subst c6
    have H1 : (selvageref02_read.l0 kj1 a0 0) = some (r1, r2) := by rw [if_neg (show ¬ (false = true) by decide)] at H; exact H
    clear H
    have H := H1
    clear H1
    have H' := Aside0.mk H
    clear H
    go_wp2
    repeat (go_quiet (fail); try go_wp2)
    go_loopg [4] kj1 (fun kq v4 w' => ∃ (x4_2 : Int), v4 = .int .i64 x4_2 ∧ Aside0 (selvageref02_read.l0 kq a0 x4_2 = some (r1, r2)) ∧ Aside0 (kq ≤ kj1) ∧ Drawn0 w w')
    case atStart => exact ⟨(0), eqNow, H', ⟨Nat.le_refl _⟩, drawnNow⟩
    case round =>
     clear H'
     try clear c1
     try clear p2
     try clear c3
     try clear c3b0
     try clear c3b1
     try clear c4
     try clear c4b0
     try clear c4b1
     try clear p5
     try clear q5
     try clear hx5
     try clear qi5
     try clear c6
     try clear p2
     try clear p5
     try clear q5
     obtain ⟨x4_2, rfl, HA, HK2, ⟨m2, rfl⟩⟩ := hrel
     cases gk with
     | zero => exact absurd HA.out (by simp [selvageref02_read.l0])
     | succ k2 =>
      have H := HA.out
      clear HA
      simp only [selvageref02_read.l0] at H
      by_cases c7 : x4_2 < 9
      ·rw [if_pos c7] at H
       have c7b0 : decide (x4_2 < 9) = true := decide_eq_true c7
       clear c7
       by_cases c8 : 0 ≤ x4_2
       ·rw [if_pos c8] at H
        have c8b0 : decide (0 ≤ x4_2) = true := decide_eq_true c8
        clear c8
        by_cases c10 : 1 < (a0.size : Int)
        ·rw [if_pos c10] at H
         have c10b0 : decide (1 < (a0.size : Int)) = true := decide_eq_true c10
         have c10b1 : decide (1 < a0.size) = true := decide_eq_true (by omega)
         clear c10
         by_cases c12 : (bt (⟨#[97, 98, 116, 110, 118, 102, 114, 34, 92]⟩ : ByteArray) x4_2) = (bt a0 1)
         ·rw [if_pos c12] at H
          have c12b0 : ((bt (⟨#[97, 98, 116, 110, 118, 102, 114, 34, 92]⟩ : ByteArray) x4_2) == (bt a0 1)) = true := beq_iff_eq.mpr c12
          have c12b1 : ((bt (⟨#[97, 98, 116, 110, 118, 102, 114, 34, 92]⟩ : ByteArray) x4_2) != (bt a0 1)) = false := bne_eq_false_iff_eq.mpr c12
          clear c12
          simp only [Option.some.injEq, Prod.mk.injEq] at H
          obtain ⟨rfl, rfl⟩ := H
          have p9 : 0 ≤ (x4_2 : Int) := ofDec
          have q9 : x4_2 < (9 : Int) := ofDec
          have hx9 := bt_at (⟨#[97, 98, 116, 110, 118, 102, 114, 34, 92]⟩ : ByteArray) x4_2
          replace p9 := eq_true p9
          replace q9 := eq_true q9
          have p11 : 0 ≤ (1 : Int) := (by omega)
          have q11 : 1 < a0.size := (by have : (1 : Int) < (a0.size : Int) := ofDec; omega)
          have hx11 : ∀ h : 1 < a0.size, ((a0[1]'h).toNat : Int) = bt a0 1 := bt_at a0 1
          clear p11
          have qi11 : (1 < (a0.size : Int)) = True := eq_true (ofDec)
          replace q11 := eq_true q11
          have p13 : 0 ≤ (x4_2 : Int) := ofDec
          have q13 : x4_2 < (9 : Int) := ofDec
          have hx13 := bt_at (⟨#[7, 8, 9, 10, 11, 12, 13, 34, 92]⟩ : ByteArray) x4_2
          replace p13 := eq_true p13
          replace q13 := eq_true q13
          go_wp2
          repeat (go_quiet (fail); try go_wp2)
          go_ret2
          exact ⟨eqFin, drawnNow⟩
         ·rw [if_neg c12] at H
          have c12b0 : ((bt (⟨#[97, 98, 116, 110, 118, 102, 114, 34, 92]⟩ : ByteArray) x4_2) == (bt a0 1)) = false := beq_eq_false_iff_ne.mpr c12
          have c12b1 : ((bt (⟨#[97, 98, 116, 110, 118, 102, 114, 34, 92]⟩ : ByteArray) x4_2) != (bt a0 1)) = true := bne_iff_ne.mpr c12
          have H' := Aside0.mk H
          clear H
          have p9 : 0 ≤ (x4_2 : Int) := ofDec
          have q9 : x4_2 < (9 : Int) := ofDec
          have hx9 := bt_at (⟨#[97, 98, 116, 110, 118, 102, 114, 34, 92]⟩ : ByteArray) x4_2
          replace p9 := eq_true p9
          replace q9 := eq_true q9
          have p11 : 0 ≤ (1 : Int) := (by omega)
          have q11 : 1 < a0.size := (by have : (1 : Int) < (a0.size : Int) := ofDec; omega)
          have hx11 : ∀ h : 1 < a0.size, ((a0[1]'h).toNat : Int) = bt a0 1 := bt_at a0 1
          clear p11
          have qi11 : (1 < (a0.size : Int)) = True := eq_true (ofDec)
          replace q11 := eq_true q11
          go_wp2
          repeat (go_quiet (fail); try go_wp2)
          go_roundg k2
          case measure => have := HJ1.out; have := HK2.out; omega
          case rel => exact ⟨(wrap64 (x4_2 + 1)), eqNow, H', ⟨by have := HJ1.out; have := HK2.out; omega⟩, drawnNow⟩
        ·rw [if_neg c10] at H
         exact absurd H (by simp)
       ·rw [if_neg c8] at H
        exact absurd H (by simp)
      ·rw [if_neg c7] at H
       have c7b0 : decide (x4_2 < 9) = false := decide_eq_false c7
       clear c7
       have HC14 := Aside0.mk H
       clear H
       go_upto_region 8 with (fail)
       repeat (go_quiet (fail); go_upto_region 8 with (fail))
       go_cut [50] (fun v50 wc => ∃ (kq : Nat) (x50_13 : Bool), v50 = .bool x50_13 ∧ Aside0 (selvageref02_read.j2 kq a0 x50_13 = some (r1, r2)) ∧ Aside0 (kq ≤ k2) ∧ Drawn0 w wc)
       case first =>
        have H := HC14.out
        clear HC14
        by_cases c15 : (a0.size : Int) < 4
        ·rw [if_pos c15] at H
         have c15b0 : decide ((a0.size : Int) < 4) = true := decide_eq_true c15
         have c15b1 : decide (a0.size < 4) = true := decide_eq_true (by omega)
         clear c15
         (first | rw [c15b0] | (simp only [i64_w, i32_w]; rw [c15b0]) | skip)
         have H' := Aside0.mk H
         clear H
         go_wp2
         repeat (go_quiet (fail); try go_wp2)
         go_meet
         case rel => exact ⟨_, (true), eqNow, H', ⟨by have := HJ1.out; have := HK2.out; first | omega | exact Nat.le_refl _⟩, drawnNow⟩
        ·rw [if_neg c15] at H
         have c15b0 : decide ((a0.size : Int) < 4) = false := decide_eq_false c15
         have c15b1 : decide (a0.size < 4) = false := decide_eq_false (by omega)
         clear c15
         (first | rw [c15b0] | (simp only [i64_w, i32_w]; rw [c15b0]) | skip)
         by_cases c16 : 1 < (a0.size : Int)
         ·rw [if_pos c16] at H
          have c16b0 : decide (1 < (a0.size : Int)) = true := decide_eq_true c16
          have c16b1 : decide (1 < a0.size) = true := decide_eq_true (by omega)
          clear c16
          replace H := Option.bind_eq_some_iff.mp H
          obtain ⟨t254, A180, H⟩ := H
          replace H : (if t254 < 0 then (selvageref02_read.j2 k2 a0 true) else (if t254 > 3 then (selvageref02_read.j2 k2 a0 true) else (if 2 < (a0.size : Int) then ((selvageref02_octal.f (bt a0 2)).bind fun t255 => (if t255 < 0 then (selvageref02_read.j2 k2 a0 true) else (if 3 < (a0.size : Int) then ((selvageref02_octal.f (bt a0 3)).bind fun t256 => (selvageref02_read.j2 k2 a0 (decide (t256 < 0)))) else (none)))) else (none)))) = some (r1, r2) := H
          have A18 := Aside0.mk A180
          clear A180
          by_cases c19 : t254 < 0
          ·rw [if_pos c19] at H
           have c19b0 : decide (t254 < 0) = true := decide_eq_true c19
           clear c19
           have H' := Aside0.mk H
           clear H
           have p17 : 0 ≤ (1 : Int) := (by omega)
           have q17 : 1 < a0.size := (by have : (1 : Int) < (a0.size : Int) := ofDec; omega)
           have hx17 : ∀ h : 1 < a0.size, ((a0[1]'h).toNat : Int) = bt a0 1 := bt_at a0 1
           clear p17
           have qi17 : (1 < (a0.size : Int)) = True := eq_true (ofDec)
           replace q17 := eq_true q17
           go_wp2_with (first | (go_at_call 76; (with_reducible refine (selvageref02_octal.calls (bt a0 1) t254 _ A18.out).mono ?_); rintro e w' ⟨rfl, ⟨nd, rfl⟩⟩; (try first | exact ⟨rfl, _, World.drewN_drewN _ _ _⟩ | exact ⟨rfl, _, Eq.trans (World.drewN_drewN _ _ _) (congrArg (World.drewN _) (Nat.add_assoc _ _ _))⟩)))
           repeat (go_quiet (first | (go_at_call 76; (with_reducible refine (selvageref02_octal.calls (bt a0 1) t254 _ A18.out).mono ?_); rintro e w' ⟨rfl, ⟨nd, rfl⟩⟩; (try first | exact ⟨rfl, _, World.drewN_drewN _ _ _⟩ | exact ⟨rfl, _, Eq.trans (World.drewN_drewN _ _ _) (congrArg (World.drewN _) (Nat.add_assoc _ _ _))⟩))); try go_wp2_with (first | (go_at_call 76; (with_reducible refine (selvageref02_octal.calls (bt a0 1) t254 _ A18.out).mono ?_); rintro e w' ⟨rfl, ⟨nd, rfl⟩⟩; (try first | exact ⟨rfl, _, World.drewN_drewN _ _ _⟩ | exact ⟨rfl, _, Eq.trans (World.drewN_drewN _ _ _) (congrArg (World.drewN _) (Nat.add_assoc _ _ _))⟩))))
           go_meet
           case rel => exact ⟨_, (true), eqNow, H', ⟨by have := HJ1.out; have := HK2.out; first | omega | exact Nat.le_refl _⟩, drawnNow⟩
          ·rw [if_neg c19] at H
           have c19b0 : decide (t254 < 0) = false := decide_eq_false c19
           clear c19
           by_cases c21 : t254 > 3
           ·rw [if_pos c21] at H
            have c21b0 : decide (3 < t254) = true := decide_eq_true c21
            clear c21
            have H' := Aside0.mk H
            clear H
            have p17 : 0 ≤ (1 : Int) := (by omega)
            have q17 : 1 < a0.size := (by have : (1 : Int) < (a0.size : Int) := ofDec; omega)
            have hx17 : ∀ h : 1 < a0.size, ((a0[1]'h).toNat : Int) = bt a0 1 := bt_at a0 1
            clear p17
            have qi17 : (1 < (a0.size : Int)) = True := eq_true (ofDec)
            replace q17 := eq_true q17
            go_wp2_with (first | (go_at_call 76; (with_reducible refine (selvageref02_octal.calls (bt a0 1) t254 _ A18.out).mono ?_); rintro e w' ⟨rfl, ⟨nd, rfl⟩⟩; (try first | exact ⟨rfl, _, World.drewN_drewN _ _ _⟩ | exact ⟨rfl, _, Eq.trans (World.drewN_drewN _ _ _) (congrArg (World.drewN _) (Nat.add_assoc _ _ _))⟩); have p20 : 0 ≤ (1 : Int) := (by omega); have q20 : 1 < a0.size := (by have : (1 : Int) < (a0.size : Int) := ofDec; omega); have hx20 : ∀ h : 1 < a0.size, ((a0[1]'h).toNat : Int) = bt a0 1 := bt_at a0 1; clear p20; have qi20 : (1 < (a0.size : Int)) = True := eq_true (ofDec); replace q20 := eq_true q20))
            repeat (go_quiet (first | (go_at_call 76; (with_reducible refine (selvageref02_octal.calls (bt a0 1) t254 _ A18.out).mono ?_); rintro e w' ⟨rfl, ⟨nd, rfl⟩⟩; (try first | exact ⟨rfl, _, World.drewN_drewN _ _ _⟩ | exact ⟨rfl, _, Eq.trans (World.drewN_drewN _ _ _) (congrArg (World.drewN _) (Nat.add_assoc _ _ _))⟩); have p20 : 0 ≤ (1 : Int) := (by omega); have q20 : 1 < a0.size := (by have : (1 : Int) < (a0.size : Int) := ofDec; omega); have hx20 : ∀ h : 1 < a0.size, ((a0[1]'h).toNat : Int) = bt a0 1 := bt_at a0 1; clear p20; have qi20 : (1 < (a0.size : Int)) = True := eq_true (ofDec); replace q20 := eq_true q20)); try go_wp2_with (first | (go_at_call 76; (with_reducible refine (selvageref02_octal.calls (bt a0 1) t254 _ A18.out).mono ?_); rintro e w' ⟨rfl, ⟨nd, rfl⟩⟩; (try first | exact ⟨rfl, _, World.drewN_drewN _ _ _⟩ | exact ⟨rfl, _, Eq.trans (World.drewN_drewN _ _ _) (congrArg (World.drewN _) (Nat.add_assoc _ _ _))⟩); have p20 : 0 ≤ (1 : Int) := (by omega); have q20 : 1 < a0.size := (by have : (1 : Int) < (a0.size : Int) := ofDec; omega); have hx20 : ∀ h : 1 < a0.size, ((a0[1]'h).toNat : Int) = bt a0 1 := bt_at a0 1; clear p20; have qi20 : (1 < (a0.size : Int)) = True := eq_true (ofDec); replace q20 := eq_true q20)))
            go_meet
            case rel => exact ⟨_, (true), eqNow, H', ⟨by have := HJ1.out; have := HK2.out; first | omega | exact Nat.le_refl _⟩, drawnNow⟩
           ·rw [if_neg c21] at H
            have c21b0 : decide (3 < t254) = false := decide_eq_false c21
            clear c21
            by_cases c22 : 2 < (a0.size : Int)
            ·rw [if_pos c22] at H
             have c22b0 : decide (2 < (a0.size : Int)) = true := decide_eq_true c22
             have c22b1 : decide (2 < a0.size) = true := decide_eq_true (by omega)
             clear c22
             replace H := Option.bind_eq_some_iff.mp H
             obtain ⟨t255, A240, H⟩ := H
             replace H : (if t255 < 0 then (selvageref02_read.j2 k2 a0 true) else (if 3 < (a0.size : Int) then ((selvageref02_octal.f (bt a0 3)).bind fun t256 => (selvageref02_read.j2 k2 a0 (decide (t256 < 0)))) else (none))) = some (r1, r2) := H
             have A24 := Aside0.mk A240
             clear A240
             by_cases c25 : t255 < 0
             ·rw [if_pos c25] at H
              have c25b0 : decide (t255 < 0) = true := decide_eq_true c25
              clear c25
              have H' := Aside0.mk H
              clear H
              have p17 : 0 ≤ (1 : Int) := (by omega)
              have q17 : 1 < a0.size := (by have : (1 : Int) < (a0.size : Int) := ofDec; omega)
              have hx17 : ∀ h : 1 < a0.size, ((a0[1]'h).toNat : Int) = bt a0 1 := bt_at a0 1
              clear p17
              have qi17 : (1 < (a0.size : Int)) = True := eq_true (ofDec)
              replace q17 := eq_true q17
              go_wp2_with (first | (go_at_call 76; (with_reducible refine (selvageref02_octal.calls (bt a0 1) t254 _ A18.out).mono ?_); rintro e w' ⟨rfl, ⟨nd, rfl⟩⟩; (try first | exact ⟨rfl, _, World.drewN_drewN _ _ _⟩ | exact ⟨rfl, _, Eq.trans (World.drewN_drewN _ _ _) (congrArg (World.drewN _) (Nat.add_assoc _ _ _))⟩); have p20 : 0 ≤ (1 : Int) := (by omega); have q20 : 1 < a0.size := (by have : (1 : Int) < (a0.size : Int) := ofDec; omega); have hx20 : ∀ h : 1 < a0.size, ((a0[1]'h).toNat : Int) = bt a0 1 := bt_at a0 1; clear p20; have qi20 : (1 < (a0.size : Int)) = True := eq_true (ofDec); replace q20 := eq_true q20; have p23 : 0 ≤ (2 : Int) := (by omega); have q23 : 2 < a0.size := (by have : (2 : Int) < (a0.size : Int) := ofDec; omega); have hx23 : ∀ h : 2 < a0.size, ((a0[2]'h).toNat : Int) = bt a0 2 := bt_at a0 2; clear p23; have qi23 : (2 < (a0.size : Int)) = True := eq_true (ofDec); replace q23 := eq_true q23) | (go_at_call 76; (with_reducible refine (selvageref02_octal.calls (bt a0 2) t255 _ A24.out).mono ?_); rintro e w' ⟨rfl, ⟨nd, rfl⟩⟩; (try first | exact ⟨rfl, _, World.drewN_drewN _ _ _⟩ | exact ⟨rfl, _, Eq.trans (World.drewN_drewN _ _ _) (congrArg (World.drewN _) (Nat.add_assoc _ _ _))⟩)))
              repeat (go_quiet (first | (go_at_call 76; (with_reducible refine (selvageref02_octal.calls (bt a0 1) t254 _ A18.out).mono ?_); rintro e w' ⟨rfl, ⟨nd, rfl⟩⟩; (try first | exact ⟨rfl, _, World.drewN_drewN _ _ _⟩ | exact ⟨rfl, _, Eq.trans (World.drewN_drewN _ _ _) (congrArg (World.drewN _) (Nat.add_assoc _ _ _))⟩); have p20 : 0 ≤ (1 : Int) := (by omega); have q20 : 1 < a0.size := (by have : (1 : Int) < (a0.size : Int) := ofDec; omega); have hx20 : ∀ h : 1 < a0.size, ((a0[1]'h).toNat : Int) = bt a0 1 := bt_at a0 1; clear p20; have qi20 : (1 < (a0.size : Int)) = True := eq_true (ofDec); replace q20 := eq_true q20; have p23 : 0 ≤ (2 : Int) := (by omega); have q23 : 2 < a0.size := (by have : (2 : Int) < (a0.size : Int) := ofDec; omega); have hx23 : ∀ h : 2 < a0.size, ((a0[2]'h).toNat : Int) = bt a0 2 := bt_at a0 2; clear p23; have qi23 : (2 < (a0.size : Int)) = True := eq_true (ofDec); replace q23 := eq_true q23) | (go_at_call 76; (with_reducible refine (selvageref02_octal.calls (bt a0 2) t255 _ A24.out).mono ?_); rintro e w' ⟨rfl, ⟨nd, rfl⟩⟩; (try first | exact ⟨rfl, _, World.drewN_drewN _ _ _⟩ | exact ⟨rfl, _, Eq.trans (World.drewN_drewN _ _ _) (congrArg (World.drewN _) (Nat.add_assoc _ _ _))⟩))); try go_wp2_with (first | (go_at_call 76; (with_reducible refine (selvageref02_octal.calls (bt a0 1) t254 _ A18.out).mono ?_); rintro e w' ⟨rfl, ⟨nd, rfl⟩⟩; (try first | exact ⟨rfl, _, World.drewN_drewN _ _ _⟩ | exact ⟨rfl, _, Eq.trans (World.drewN_drewN _ _ _) (congrArg (World.drewN _) (Nat.add_assoc _ _ _))⟩); have p20 : 0 ≤ (1 : Int) := (by omega); have q20 : 1 < a0.size := (by have : (1 : Int) < (a0.size : Int) := ofDec; omega); have hx20 : ∀ h : 1 < a0.size, ((a0[1]'h).toNat : Int) = bt a0 1 := bt_at a0 1; clear p20; have qi20 : (1 < (a0.size : Int)) = True := eq_true (ofDec); replace q20 := eq_true q20; have p23 : 0 ≤ (2 : Int) := (by omega); have q23 : 2 < a0.size := (by have : (2 : Int) < (a0.size : Int) := ofDec; omega); have hx23 : ∀ h : 2 < a0.size, ((a0[2]'h).toNat : Int) = bt a0 2 := bt_at a0 2; clear p23; have qi23 : (2 < (a0.size : Int)) = True := eq_true (ofDec); replace q23 := eq_true q23) | (go_at_call 76; (with_reducible refine (selvageref02_octal.calls (bt a0 2) t255 _ A24.out).mono ?_); rintro e w' ⟨rfl, ⟨nd, rfl⟩⟩; (try first | exact ⟨rfl, _, World.drewN_drewN _ _ _⟩ | exact ⟨rfl, _, Eq.trans (World.drewN_drewN _ _ _) (congrArg (World.drewN _) (Nat.add_assoc _ _ _))⟩))))
              go_meet
              case rel => exact ⟨_, (true), eqNow, H', ⟨by have := HJ1.out; have := HK2.out; first | omega | exact Nat.le_refl _⟩, drawnNow⟩
             ·rw [if_neg c25] at H
              have c25b0 : decide (t255 < 0) = false := decide_eq_false c25
              clear c25
              by_cases c26 : 3 < (a0.size : Int)
              ·rw [if_pos c26] at H
               have c26b0 : decide (3 < (a0.size : Int)) = true := decide_eq_true c26
               have c26b1 : decide (3 < a0.size) = true := decide_eq_true (by omega)
               clear c26
               replace H := Option.bind_eq_some_iff.mp H
               obtain ⟨t256, A280, H⟩ := H
               replace H : (selvageref02_read.j2 k2 a0 (decide (t256 < 0))) = some (r1, r2) := H
               have A28 := Aside0.mk A280
               clear A280
               have H' := Aside0.mk H
               clear H
               have p17 : 0 ≤ (1 : Int) := (by omega)
               have q17 : 1 < a0.size := (by have : (1 : Int) < (a0.size : Int) := ofDec; omega)
               have hx17 : ∀ h : 1 < a0.size, ((a0[1]'h).toNat : Int) = bt a0 1 := bt_at a0 1
               clear p17
               have qi17 : (1 < (a0.size : Int)) = True := eq_true (ofDec)
               replace q17 := eq_true q17
               go_wp2_with (first | (go_at_call 76; (with_reducible refine (selvageref02_octal.calls (bt a0 1) t254 _ A18.out).mono ?_); rintro e w' ⟨rfl, ⟨nd, rfl⟩⟩; (try first | exact ⟨rfl, _, World.drewN_drewN _ _ _⟩ | exact ⟨rfl, _, Eq.trans (World.drewN_drewN _ _ _) (congrArg (World.drewN _) (Nat.add_assoc _ _ _))⟩); have p20 : 0 ≤ (1 : Int) := (by omega); have q20 : 1 < a0.size := (by have : (1 : Int) < (a0.size : Int) := ofDec; omega); have hx20 : ∀ h : 1 < a0.size, ((a0[1]'h).toNat : Int) = bt a0 1 := bt_at a0 1; clear p20; have qi20 : (1 < (a0.size : Int)) = True := eq_true (ofDec); replace q20 := eq_true q20; have p23 : 0 ≤ (2 : Int) := (by omega); have q23 : 2 < a0.size := (by have : (2 : Int) < (a0.size : Int) := ofDec; omega); have hx23 : ∀ h : 2 < a0.size, ((a0[2]'h).toNat : Int) = bt a0 2 := bt_at a0 2; clear p23; have qi23 : (2 < (a0.size : Int)) = True := eq_true (ofDec); replace q23 := eq_true q23) | (go_at_call 76; (with_reducible refine (selvageref02_octal.calls (bt a0 2) t255 _ A24.out).mono ?_); rintro e w' ⟨rfl, ⟨nd, rfl⟩⟩; (try first | exact ⟨rfl, _, World.drewN_drewN _ _ _⟩ | exact ⟨rfl, _, Eq.trans (World.drewN_drewN _ _ _) (congrArg (World.drewN _) (Nat.add_assoc _ _ _))⟩); have p27 : 0 ≤ (3 : Int) := (by omega); have q27 : 3 < a0.size := (by have : (3 : Int) < (a0.size : Int) := ofDec; omega); have hx27 : ∀ h : 3 < a0.size, ((a0[3]'h).toNat : Int) = bt a0 3 := bt_at a0 3; clear p27; have qi27 : (3 < (a0.size : Int)) = True := eq_true (ofDec); replace q27 := eq_true q27) | (go_at_call 76; (with_reducible refine (selvageref02_octal.calls (bt a0 3) t256 _ A28.out).mono ?_); rintro e w' ⟨rfl, ⟨nd, rfl⟩⟩; (try first | exact ⟨rfl, _, World.drewN_drewN _ _ _⟩ | exact ⟨rfl, _, Eq.trans (World.drewN_drewN _ _ _) (congrArg (World.drewN _) (Nat.add_assoc _ _ _))⟩)))
               repeat (go_quiet (first | (go_at_call 76; (with_reducible refine (selvageref02_octal.calls (bt a0 1) t254 _ A18.out).mono ?_); rintro e w' ⟨rfl, ⟨nd, rfl⟩⟩; (try first | exact ⟨rfl, _, World.drewN_drewN _ _ _⟩ | exact ⟨rfl, _, Eq.trans (World.drewN_drewN _ _ _) (congrArg (World.drewN _) (Nat.add_assoc _ _ _))⟩); have p20 : 0 ≤ (1 : Int) := (by omega); have q20 : 1 < a0.size := (by have : (1 : Int) < (a0.size : Int) := ofDec; omega); have hx20 : ∀ h : 1 < a0.size, ((a0[1]'h).toNat : Int) = bt a0 1 := bt_at a0 1; clear p20; have qi20 : (1 < (a0.size : Int)) = True := eq_true (ofDec); replace q20 := eq_true q20; have p23 : 0 ≤ (2 : Int) := (by omega); have q23 : 2 < a0.size := (by have : (2 : Int) < (a0.size : Int) := ofDec; omega); have hx23 : ∀ h : 2 < a0.size, ((a0[2]'h).toNat : Int) = bt a0 2 := bt_at a0 2; clear p23; have qi23 : (2 < (a0.size : Int)) = True := eq_true (ofDec); replace q23 := eq_true q23) | (go_at_call 76; (with_reducible refine (selvageref02_octal.calls (bt a0 2) t255 _ A24.out).mono ?_); rintro e w' ⟨rfl, ⟨nd, rfl⟩⟩; (try first | exact ⟨rfl, _, World.drewN_drewN _ _ _⟩ | exact ⟨rfl, _, Eq.trans (World.drewN_drewN _ _ _) (congrArg (World.drewN _) (Nat.add_assoc _ _ _))⟩); have p27 : 0 ≤ (3 : Int) := (by omega); have q27 : 3 < a0.size := (by have : (3 : Int) < (a0.size : Int) := ofDec; omega); have hx27 : ∀ h : 3 < a0.size, ((a0[3]'h).toNat : Int) = bt a0 3 := bt_at a0 3; clear p27; have qi27 : (3 < (a0.size : Int)) = True := eq_true (ofDec); replace q27 := eq_true q27) | (go_at_call 76; (with_reducible refine (selvageref02_octal.calls (bt a0 3) t256 _ A28.out).mono ?_); rintro e w' ⟨rfl, ⟨nd, rfl⟩⟩; (try first | exact ⟨rfl, _, World.drewN_drewN _ _ _⟩ | exact ⟨rfl, _, Eq.trans (World.drewN_drewN _ _ _) (congrArg (World.drewN _) (Nat.add_assoc _ _ _))⟩))); try go_wp2_with (first | (go_at_call 76; (with_reducible refine (selvageref02_octal.calls (bt a0 1) t254 _ A18.out).mono ?_); rintro e w' ⟨rfl, ⟨nd, rfl⟩⟩; (try first | exact ⟨rfl, _, World.drewN_drewN _ _ _⟩ | exact ⟨rfl, _, Eq.trans (World.drewN_drewN _ _ _) (congrArg (World.drewN _) (Nat.add_assoc _ _ _))⟩); have p20 : 0 ≤ (1 : Int) := (by omega); have q20 : 1 < a0.size := (by have : (1 : Int) < (a0.size : Int) := ofDec; omega); have hx20 : ∀ h : 1 < a0.size, ((a0[1]'h).toNat : Int) = bt a0 1 := bt_at a0 1; clear p20; have qi20 : (1 < (a0.size : Int)) = True := eq_true (ofDec); replace q20 := eq_true q20; have p23 : 0 ≤ (2 : Int) := (by omega); have q23 : 2 < a0.size := (by have : (2 : Int) < (a0.size : Int) := ofDec; omega); have hx23 : ∀ h : 2 < a0.size, ((a0[2]'h).toNat : Int) = bt a0 2 := bt_at a0 2; clear p23; have qi23 : (2 < (a0.size : Int)) = True := eq_true (ofDec); replace q23 := eq_true q23) | (go_at_call 76; (with_reducible refine (selvageref02_octal.calls (bt a0 2) t255 _ A24.out).mono ?_); rintro e w' ⟨rfl, ⟨nd, rfl⟩⟩; (try first | exact ⟨rfl, _, World.drewN_drewN _ _ _⟩ | exact ⟨rfl, _, Eq.trans (World.drewN_drewN _ _ _) (congrArg (World.drewN _) (Nat.add_assoc _ _ _))⟩); have p27 : 0 ≤ (3 : Int) := (by omega); have q27 : 3 < a0.size := (by have : (3 : Int) < (a0.size : Int) := ofDec; omega); have hx27 : ∀ h : 3 < a0.size, ((a0[3]'h).toNat : Int) = bt a0 3 := bt_at a0 3; clear p27; have qi27 : (3 < (a0.size : Int)) = True := eq_true (ofDec); replace q27 := eq_true q27) | (go_at_call 76; (with_reducible refine (selvageref02_octal.calls (bt a0 3) t256 _ A28.out).mono ?_); rintro e w' ⟨rfl, ⟨nd, rfl⟩⟩; (try first | exact ⟨rfl, _, World.drewN_drewN _ _ _⟩ | exact ⟨rfl, _, Eq.trans (World.drewN_drewN _ _ _) (congrArg (World.drewN _) (Nat.add_assoc _ _ _))⟩))))
               go_meet
               case rel => exact ⟨_, (decide (t256 < 0)), eqNow, H', ⟨by have := HJ1.out; have := HK2.out; first | omega | exact Nat.le_refl _⟩, drawnNow⟩
              ·rw [if_neg c26] at H
               exact absurd H (by simp)
            ·rw [if_neg c22] at H
             exact absurd H (by simp)
         ·rw [if_neg c16] at H
          exact absurd H (by simp)
       case rest =>
        clear HC14
        try clear c1
        try clear p1
        try clear q1
        try clear hx1
        try clear qi1
        try clear c2
        try clear p2
        try clear q2
        try clear hx2
        try clear qi2
        try clear c3
        try clear c3b0
        try clear c3b1
        try clear c4
        try clear c4b0
        try clear c4b1
        try clear p5
        try clear q5
        try clear hx5
        try clear qi5
        try clear c6
        try clear p6
        try clear c7
        try clear c7b0
        try clear c8
        try clear c8b0
        try clear p9
        try clear q9
        try clear hx9
        try clear c10
        try clear c10b0
        try clear c10b1
        try clear p11
        try clear q11
        try clear hx11
        try clear qi11
        try clear c12
        try clear c12b0
        try clear c12b1
        try clear p13
        try clear q13
        try clear hx13
        try clear c15
        try clear c15b0
        try clear c15b1
        try clear c16
        try clear c16b0
        try clear c16b1
        try clear p17
        try clear q17
        try clear hx17
        try clear qi17
        try clear c19
        try clear c19b0
        try clear p20
        try clear q20
        try clear hx20
        try clear qi20
        try clear c21
        try clear c21b0
        try clear c22
        try clear c22b0
        try clear c22b1
        try clear p23
        try clear q23
        try clear hx23
        try clear qi23
        try clear c25
        try clear c25b0
        try clear c26
        try clear c26b0
        try clear c26b1
        try clear p27
        try clear q27
        try clear hx27
        try clear qi27
        try clear p11
        try clear p13
        try clear p17
        try clear p2
        try clear p20
        try clear p23
        try clear p27
        try clear p5
        try clear p9
        try clear q11
        try clear q13
        try clear q17
        try clear q20
        try clear q23
        try clear q27
        try clear q5
        try clear q9
        obtain ⟨kq, x50_13, rfl, HA, HJ13, ⟨mc13, rfl⟩⟩ := hcut
        cases kq with
        | zero => exact absurd HA.out (by simp [selvageref02_read.j2])
        | succ kj13 =>
         have H := HA.out
         clear HA
         simp only [selvageref02_read.j2] at H
         by_cases c29 : x50_13 = true
         ·subst c29
          have H1 : (some (0, 0)) = some (r1, r2) := by rw [if_pos rfl] at H; exact H
          clear H
          have H := H1
          clear H1
          simp only [Option.some.injEq, Prod.mk.injEq] at H
          obtain ⟨rfl, rfl⟩ := H
          go_wp2
          repeat (go_quiet (fail); try go_wp2)
          go_ret2
          exact ⟨eqFin, drawnNow⟩
         ·replace c29 := Bool.eq_false_iff.mpr c29
          subst c29
          have H1 : (if 1 < (a0.size : Int) then ((selvageref02_octal.f (bt a0 1)).bind fun t257 => (if 2 < (a0.size : Int) then ((selvageref02_octal.f (bt a0 2)).bind fun t258 => (if 3 < (a0.size : Int) then ((selvageref02_octal.f (bt a0 3)).bind fun t259 => (some ((wrap64 ((wrap64 ((wrap64 (t257 * 64)) + (wrap64 (t258 * 8)))) + t259)) % 256, 4))) else (none))) else (none))) else (none)) = some (r1, r2) := by rw [if_neg (show ¬ (false = true) by decide)] at H; exact H
          clear H
          have H := H1
          clear H1
          by_cases c30 : 1 < (a0.size : Int)
          ·rw [if_pos c30] at H
           have c30b0 : decide (1 < (a0.size : Int)) = true := decide_eq_true c30
           have c30b1 : decide (1 < a0.size) = true := decide_eq_true (by omega)
           clear c30
           replace H := Option.bind_eq_some_iff.mp H
           obtain ⟨t257, A320, H⟩ := H
           replace H : (if 2 < (a0.size : Int) then ((selvageref02_octal.f (bt a0 2)).bind fun t258 => (if 3 < (a0.size : Int) then ((selvageref02_octal.f (bt a0 3)).bind fun t259 => (some ((wrap64 ((wrap64 ((wrap64 (t257 * 64)) + (wrap64 (t258 * 8)))) + t259)) % 256, 4))) else (none))) else (none)) = some (r1, r2) := H
           have A32 := Aside0.mk A320
           clear A320
           by_cases c33 : 2 < (a0.size : Int)
           ·rw [if_pos c33] at H
            have c33b0 : decide (2 < (a0.size : Int)) = true := decide_eq_true c33
            have c33b1 : decide (2 < a0.size) = true := decide_eq_true (by omega)
            clear c33
            replace H := Option.bind_eq_some_iff.mp H
            obtain ⟨t258, A350, H⟩ := H
            replace H : (if 3 < (a0.size : Int) then ((selvageref02_octal.f (bt a0 3)).bind fun t259 => (some ((wrap64 ((wrap64 ((wrap64 (t257 * 64)) + (wrap64 (t258 * 8)))) + t259)) % 256, 4))) else (none)) = some (r1, r2) := H
            have A35 := Aside0.mk A350
            clear A350
            by_cases c36 : 3 < (a0.size : Int)
            ·rw [if_pos c36] at H
             have c36b0 : decide (3 < (a0.size : Int)) = true := decide_eq_true c36
             have c36b1 : decide (3 < a0.size) = true := decide_eq_true (by omega)
             clear c36
             replace H := Option.bind_eq_some_iff.mp H
             obtain ⟨t259, A380, H⟩ := H
             replace H : (some ((wrap64 ((wrap64 ((wrap64 (t257 * 64)) + (wrap64 (t258 * 8)))) + t259)) % 256, 4)) = some (r1, r2) := H
             have A38 := Aside0.mk A380
             clear A380
             simp only [Option.some.injEq, Prod.mk.injEq] at H
             obtain ⟨rfl, rfl⟩ := H
             have p31 : 0 ≤ (1 : Int) := (by omega)
             have q31 : 1 < a0.size := (by have : (1 : Int) < (a0.size : Int) := ofDec; omega)
             have hx31 : ∀ h : 1 < a0.size, ((a0[1]'h).toNat : Int) = bt a0 1 := bt_at a0 1
             clear p31
             have qi31 : (1 < (a0.size : Int)) = True := eq_true (ofDec)
             replace q31 := eq_true q31
             go_wp2_with (first | (go_at_call 76; (with_reducible refine (selvageref02_octal.calls (bt a0 1) t257 _ A32.out).mono ?_); rintro e w' ⟨rfl, ⟨nd, rfl⟩⟩; (try first | exact ⟨rfl, _, World.drewN_drewN _ _ _⟩ | exact ⟨rfl, _, Eq.trans (World.drewN_drewN _ _ _) (congrArg (World.drewN _) (Nat.add_assoc _ _ _))⟩); have p34 : 0 ≤ (2 : Int) := (by omega); have q34 : 2 < a0.size := (by have : (2 : Int) < (a0.size : Int) := ofDec; omega); have hx34 : ∀ h : 2 < a0.size, ((a0[2]'h).toNat : Int) = bt a0 2 := bt_at a0 2; clear p34; have qi34 : (2 < (a0.size : Int)) = True := eq_true (ofDec); replace q34 := eq_true q34) | (go_at_call 76; (with_reducible refine (selvageref02_octal.calls (bt a0 2) t258 _ A35.out).mono ?_); rintro e w' ⟨rfl, ⟨nd, rfl⟩⟩; (try first | exact ⟨rfl, _, World.drewN_drewN _ _ _⟩ | exact ⟨rfl, _, Eq.trans (World.drewN_drewN _ _ _) (congrArg (World.drewN _) (Nat.add_assoc _ _ _))⟩); have p37 : 0 ≤ (3 : Int) := (by omega); have q37 : 3 < a0.size := (by have : (3 : Int) < (a0.size : Int) := ofDec; omega); have hx37 : ∀ h : 3 < a0.size, ((a0[3]'h).toNat : Int) = bt a0 3 := bt_at a0 3; clear p37; have qi37 : (3 < (a0.size : Int)) = True := eq_true (ofDec); replace q37 := eq_true q37) | (go_at_call 76; (with_reducible refine (selvageref02_octal.calls (bt a0 3) t259 _ A38.out).mono ?_); rintro e w' ⟨rfl, ⟨nd, rfl⟩⟩; (try first | exact ⟨rfl, _, World.drewN_drewN _ _ _⟩ | exact ⟨rfl, _, Eq.trans (World.drewN_drewN _ _ _) (congrArg (World.drewN _) (Nat.add_assoc _ _ _))⟩)))
             repeat (go_quiet (first | (go_at_call 76; (with_reducible refine (selvageref02_octal.calls (bt a0 1) t257 _ A32.out).mono ?_); rintro e w' ⟨rfl, ⟨nd, rfl⟩⟩; (try first | exact ⟨rfl, _, World.drewN_drewN _ _ _⟩ | exact ⟨rfl, _, Eq.trans (World.drewN_drewN _ _ _) (congrArg (World.drewN _) (Nat.add_assoc _ _ _))⟩); have p34 : 0 ≤ (2 : Int) := (by omega); have q34 : 2 < a0.size := (by have : (2 : Int) < (a0.size : Int) := ofDec; omega); have hx34 : ∀ h : 2 < a0.size, ((a0[2]'h).toNat : Int) = bt a0 2 := bt_at a0 2; clear p34; have qi34 : (2 < (a0.size : Int)) = True := eq_true (ofDec); replace q34 := eq_true q34) | (go_at_call 76; (with_reducible refine (selvageref02_octal.calls (bt a0 2) t258 _ A35.out).mono ?_); rintro e w' ⟨rfl, ⟨nd, rfl⟩⟩; (try first | exact ⟨rfl, _, World.drewN_drewN _ _ _⟩ | exact ⟨rfl, _, Eq.trans (World.drewN_drewN _ _ _) (congrArg (World.drewN _) (Nat.add_assoc _ _ _))⟩); have p37 : 0 ≤ (3 : Int) := (by omega); have q37 : 3 < a0.size := (by have : (3 : Int) < (a0.size : Int) := ofDec; omega); have hx37 : ∀ h : 3 < a0.size, ((a0[3]'h).toNat : Int) = bt a0 3 := bt_at a0 3; clear p37; have qi37 : (3 < (a0.size : Int)) = True := eq_true (ofDec); replace q37 := eq_true q37) | (go_at_call 76; (with_reducible refine (selvageref02_octal.calls (bt a0 3) t259 _ A38.out).mono ?_); rintro e w' ⟨rfl, ⟨nd, rfl⟩⟩; (try first | exact ⟨rfl, _, World.drewN_drewN _ _ _⟩ | exact ⟨rfl, _, Eq.trans (World.drewN_drewN _ _ _) (congrArg (World.drewN _) (Nat.add_assoc _ _ _))⟩))); try go_wp2_with (first | (go_at_call 76; (with_reducible refine (selvageref02_octal.calls (bt a0 1) t257 _ A32.out).mono ?_); rintro e w' ⟨rfl, ⟨nd, rfl⟩⟩; (try first | exact ⟨rfl, _, World.drewN_drewN _ _ _⟩ | exact ⟨rfl, _, Eq.trans (World.drewN_drewN _ _ _) (congrArg (World.drewN _) (Nat.add_assoc _ _ _))⟩); have p34 : 0 ≤ (2 : Int) := (by omega); have q34 : 2 < a0.size := (by have : (2 : Int) < (a0.size : Int) := ofDec; omega); have hx34 : ∀ h : 2 < a0.size, ((a0[2]'h).toNat : Int) = bt a0 2 := bt_at a0 2; clear p34; have qi34 : (2 < (a0.size : Int)) = True := eq_true (ofDec); replace q34 := eq_true q34) | (go_at_call 76; (with_reducible refine (selvageref02_octal.calls (bt a0 2) t258 _ A35.out).mono ?_); rintro e w' ⟨rfl, ⟨nd, rfl⟩⟩; (try first | exact ⟨rfl, _, World.drewN_drewN _ _ _⟩ | exact ⟨rfl, _, Eq.trans (World.drewN_drewN _ _ _) (congrArg (World.drewN _) (Nat.add_assoc _ _ _))⟩); have p37 : 0 ≤ (3 : Int) := (by omega); have q37 : 3 < a0.size := (by have : (3 : Int) < (a0.size : Int) := ofDec; omega); have hx37 : ∀ h : 3 < a0.size, ((a0[3]'h).toNat : Int) = bt a0 3 := bt_at a0 3; clear p37; have qi37 : (3 < (a0.size : Int)) = True := eq_true (ofDec); replace q37 := eq_true q37) | (go_at_call 76; (with_reducible refine (selvageref02_octal.calls (bt a0 3) t259 _ A38.out).mono ?_); rintro e w' ⟨rfl, ⟨nd, rfl⟩⟩; (try first | exact ⟨rfl, _, World.drewN_drewN _ _ _⟩ | exact ⟨rfl, _, Eq.trans (World.drewN_drewN _ _ _) (congrArg (World.drewN _) (Nat.add_assoc _ _ _))⟩))))
             go_ret2
             exact ⟨eqFin, drawnNow⟩
            ·rw [if_neg c36] at H
             exact absurd H (by simp)
           ·rw [if_neg c33] at H
            exact absurd H (by simp)
          ·rw [if_neg c30] at H
           exact absurd H (by simp)
end Go.Proofs.YtfempodohmhhlaaDoor.Pp
