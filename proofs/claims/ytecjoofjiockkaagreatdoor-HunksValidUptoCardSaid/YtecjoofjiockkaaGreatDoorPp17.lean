import Derived.Test.YtecjoofjiockkaaGreatDoorESr
import Derived.Test.YtecjoofjiockkaaGreatDoorPp0
import Derived.Test.YtecjoofjiockkaaGreatDoorPp3
namespace Go.Proofs.YtecjoofjiockkaaGreatDoor.Pp
open Go.RowKit Go.Proofs.YtecjoofjiockkaaGreatDoor.Ext Go.Proofs.YtecjoofjiockkaaGreatDoorW.PrintWords Go.Proofs.YtecjoofjiockkaaGreatDoorW.PrintLast Go.Proofs.YtecjoofjiockkaaGreatDoorW.PrintMore
attribute [local go_sem] max2_int min2_int max_two min_two max_three min_three max_four min_four   -- for this text's walks alone
set_option linter.unusedVariables false
set_option linter.unusedSimpArgs false
def hunks_begins.f (a0 : ByteArray) : Option (Bool) := if a0.toList = ([] : List UInt8) then (some false) else (if 0 < (a0.size : Int) then (if (bt a0 0) ≥ 97 then (if (bt a0 0) ≤ 122 then (some true) else (if (bt a0 0) ≥ 65 then (if (bt a0 0) ≤ 90 then (some true) else (if (bt a0 0) = 95 then (some true) else (some ((bt a0 0) == 36)))) else (if (bt a0 0) = 95 then (some true) else (some ((bt a0 0) == 36))))) else (if (bt a0 0) ≥ 65 then (if (bt a0 0) ≤ 90 then (some true) else (if (bt a0 0) = 95 then (some true) else (some ((bt a0 0) == 36)))) else (if (bt a0 0) = 95 then (some true) else (some ((bt a0 0) == 36))))) else (none))
set_option maxHeartbeats 8000000 in
set_option maxRecDepth 100000 in
theorem hunks_begins.calls (a0 : ByteArray) (r : Bool) (w : World) (h : hunks_begins.f a0 = some r) :
  Calls Tryz.prog 89 #[.string a0] w fun e w' => e = .returned (.bool r) ∧ Drawn0 w w' := by
 have H : (if a0.toList = ([] : List UInt8) then (some false) else (if 0 < (a0.size : Int) then (if (bt a0 0) ≥ 97 then (if (bt a0 0) ≤ 122 then (some true) else (if (bt a0 0) ≥ 65 then (if (bt a0 0) ≤ 90 then (some true) else (if (bt a0 0) = 95 then (some true) else (some ((bt a0 0) == 36)))) else (if (bt a0 0) = 95 then (some true) else (some ((bt a0 0) == 36))))) else (if (bt a0 0) ≥ 65 then (if (bt a0 0) ≤ 90 then (some true) else (if (bt a0 0) = 95 then (some true) else (some ((bt a0 0) == 36)))) else (if (bt a0 0) = 95 then (some true) else (some ((bt a0 0) == 36))))) else (none))) = some r := h
 clear h
 by_cases c2 : a0.toList = ([] : List UInt8)
 ·rw [if_pos c2] at H
  have c2b0 : (a0.toList == ([] : List UInt8)) = true := beq_iff_eq.mpr c2
  have c2b1 : (a0.toList != ([] : List UInt8)) = false := bne_eq_false_iff_eq.mpr c2
  clear c2
  obtain rfl := Option.some.inj H
  go_enter Tryz.func89, Tryz.ntmps89
  go_wp2
  go_ret
  exact ⟨eqFin, drawnNow⟩
 rw [if_neg c2] at H
 have c2b0 : (a0.toList == ([] : List UInt8)) = false := beq_eq_false_iff_ne.mpr c2
 have c2b1 : (a0.toList != ([] : List UInt8)) = true := bne_iff_ne.mpr c2
 by_cases c3 : 0 < (a0.size : Int)
 rotate_left
 ·rw [if_neg c3] at H
  exact absurd H (by simp)
 rw [if_pos c3] at H
 have c3b0 : decide (0 < (a0.size : Int)) = true := decide_eq_true c3
 have c3b1 : decide (0 < a0.size) = true := decide_eq_true (by omega)
 clear c3
 by_cases c5 : (bt a0 0) ≥ 97
 rotate_left
 ·rw [if_neg c5] at H
  have c5b0 : decide (97 ≤ (bt a0 0)) = false := decide_eq_false c5
  clear c5
  by_cases c19 : (bt a0 0) ≥ 65
  rotate_left
  ·rw [if_neg c19] at H
   have c19b0 : decide (65 ≤ (bt a0 0)) = false := decide_eq_false c19
   clear c19
   by_cases c26 : (bt a0 0) = 95
   ·rw [if_pos c26] at H
    have c26b0 : ((bt a0 0) == 95) = true := beq_iff_eq.mpr c26
    have c26b1 : ((bt a0 0) != 95) = false := bne_eq_false_iff_eq.mpr c26
    clear c26
    obtain rfl := Option.some.inj H
    have p4 : 0 ≤ (0 : Int) := (by omega)
    have q4 : 0 < a0.size := (by have : (0 : Int) < (a0.size : Int) := ofDec; omega)
    have hx4 : ∀ h : 0 < a0.size, ((a0[0]'h).toNat : Int) = bt a0 0 := bt_at a0 0
    clear p4
    have qi4 : (0 < (a0.size : Int)) = True := eq_true (ofDec)
    replace q4 := eq_true q4
    have p18 : 0 ≤ (0 : Int) := (by omega)
    have q18 : 0 < a0.size := (by have : (0 : Int) < (a0.size : Int) := ofDec; omega)
    have hx18 : ∀ h : 0 < a0.size, ((a0[0]'h).toNat : Int) = bt a0 0 := bt_at a0 0
    clear p18
    have qi18 : (0 < (a0.size : Int)) = True := eq_true (ofDec)
    replace q18 := eq_true q18
    have p25 : 0 ≤ (0 : Int) := (by omega)
    have q25 : 0 < a0.size := (by have : (0 : Int) < (a0.size : Int) := ofDec; omega)
    have hx25 : ∀ h : 0 < a0.size, ((a0[0]'h).toNat : Int) = bt a0 0 := bt_at a0 0
    clear p25
    have qi25 : (0 < (a0.size : Int)) = True := eq_true (ofDec)
    replace q25 := eq_true q25
    go_enter Tryz.func89, Tryz.ntmps89
    go_wp2
    go_ret
    exact ⟨eqFin, drawnNow⟩
   rw [if_neg c26] at H
   have c26b0 : ((bt a0 0) == 95) = false := beq_eq_false_iff_ne.mpr c26
   have c26b1 : ((bt a0 0) != 95) = true := bne_iff_ne.mpr c26
   obtain rfl := Option.some.inj H
   have p4 : 0 ≤ (0 : Int) := (by omega)
   have q4 : 0 < a0.size := (by have : (0 : Int) < (a0.size : Int) := ofDec; omega)
   have hx4 : ∀ h : 0 < a0.size, ((a0[0]'h).toNat : Int) = bt a0 0 := bt_at a0 0
   clear p4
   have qi4 : (0 < (a0.size : Int)) = True := eq_true (ofDec)
   replace q4 := eq_true q4
   have p18 : 0 ≤ (0 : Int) := (by omega)
   have q18 : 0 < a0.size := (by have : (0 : Int) < (a0.size : Int) := ofDec; omega)
   have hx18 : ∀ h : 0 < a0.size, ((a0[0]'h).toNat : Int) = bt a0 0 := bt_at a0 0
   clear p18
   have qi18 : (0 < (a0.size : Int)) = True := eq_true (ofDec)
   replace q18 := eq_true q18
   have p25 : 0 ≤ (0 : Int) := (by omega)
   have q25 : 0 < a0.size := (by have : (0 : Int) < (a0.size : Int) := ofDec; omega)
   have hx25 : ∀ h : 0 < a0.size, ((a0[0]'h).toNat : Int) = bt a0 0 := bt_at a0 0
   clear p25
   have qi25 : (0 < (a0.size : Int)) = True := eq_true (ofDec)
   replace q25 := eq_true q25
   have p27 : 0 ≤ (0 : Int) := (by omega)
   have q27 : 0 < a0.size := (by have : (0 : Int) < (a0.size : Int) := ofDec; omega)
   have hx27 : ∀ h : 0 < a0.size, ((a0[0]'h).toNat : Int) = bt a0 0 := bt_at a0 0
   clear p27
   have qi27 : (0 < (a0.size : Int)) = True := eq_true (ofDec)
   replace q27 := eq_true q27
   go_enter Tryz.func89, Tryz.ntmps89
   go_wp2
   go_ret
   exact ⟨eqFin, drawnNow⟩
  rw [if_pos c19] at H
  have c19b0 : decide (65 ≤ (bt a0 0)) = true := decide_eq_true c19
  clear c19
  by_cases c21 : (bt a0 0) ≤ 90
  ·rw [if_pos c21] at H
   have c21b0 : decide ((bt a0 0) ≤ 90) = true := decide_eq_true c21
   clear c21
   obtain rfl := Option.some.inj H
   have p4 : 0 ≤ (0 : Int) := (by omega)
   have q4 : 0 < a0.size := (by have : (0 : Int) < (a0.size : Int) := ofDec; omega)
   have hx4 : ∀ h : 0 < a0.size, ((a0[0]'h).toNat : Int) = bt a0 0 := bt_at a0 0
   clear p4
   have qi4 : (0 < (a0.size : Int)) = True := eq_true (ofDec)
   replace q4 := eq_true q4
   have p18 : 0 ≤ (0 : Int) := (by omega)
   have q18 : 0 < a0.size := (by have : (0 : Int) < (a0.size : Int) := ofDec; omega)
   have hx18 : ∀ h : 0 < a0.size, ((a0[0]'h).toNat : Int) = bt a0 0 := bt_at a0 0
   clear p18
   have qi18 : (0 < (a0.size : Int)) = True := eq_true (ofDec)
   replace q18 := eq_true q18
   have p20 : 0 ≤ (0 : Int) := (by omega)
   have q20 : 0 < a0.size := (by have : (0 : Int) < (a0.size : Int) := ofDec; omega)
   have hx20 : ∀ h : 0 < a0.size, ((a0[0]'h).toNat : Int) = bt a0 0 := bt_at a0 0
   clear p20
   have qi20 : (0 < (a0.size : Int)) = True := eq_true (ofDec)
   replace q20 := eq_true q20
   go_enter Tryz.func89, Tryz.ntmps89
   go_wp2
   go_ret
   exact ⟨eqFin, drawnNow⟩
  rw [if_neg c21] at H
  have c21b0 : decide ((bt a0 0) ≤ 90) = false := decide_eq_false c21
  clear c21
  by_cases c23 : (bt a0 0) = 95
  ·rw [if_pos c23] at H
   have c23b0 : ((bt a0 0) == 95) = true := beq_iff_eq.mpr c23
   have c23b1 : ((bt a0 0) != 95) = false := bne_eq_false_iff_eq.mpr c23
   clear c23
   obtain rfl := Option.some.inj H
   have p4 : 0 ≤ (0 : Int) := (by omega)
   have q4 : 0 < a0.size := (by have : (0 : Int) < (a0.size : Int) := ofDec; omega)
   have hx4 : ∀ h : 0 < a0.size, ((a0[0]'h).toNat : Int) = bt a0 0 := bt_at a0 0
   clear p4
   have qi4 : (0 < (a0.size : Int)) = True := eq_true (ofDec)
   replace q4 := eq_true q4
   have p18 : 0 ≤ (0 : Int) := (by omega)
   have q18 : 0 < a0.size := (by have : (0 : Int) < (a0.size : Int) := ofDec; omega)
   have hx18 : ∀ h : 0 < a0.size, ((a0[0]'h).toNat : Int) = bt a0 0 := bt_at a0 0
   clear p18
   have qi18 : (0 < (a0.size : Int)) = True := eq_true (ofDec)
   replace q18 := eq_true q18
   have p20 : 0 ≤ (0 : Int) := (by omega)
   have q20 : 0 < a0.size := (by have : (0 : Int) < (a0.size : Int) := ofDec; omega)
   have hx20 : ∀ h : 0 < a0.size, ((a0[0]'h).toNat : Int) = bt a0 0 := bt_at a0 0
   clear p20
   have qi20 : (0 < (a0.size : Int)) = True := eq_true (ofDec)
   replace q20 := eq_true q20
   have p22 : 0 ≤ (0 : Int) := (by omega)
   have q22 : 0 < a0.size := (by have : (0 : Int) < (a0.size : Int) := ofDec; omega)
   have hx22 : ∀ h : 0 < a0.size, ((a0[0]'h).toNat : Int) = bt a0 0 := bt_at a0 0
   clear p22
   have qi22 : (0 < (a0.size : Int)) = True := eq_true (ofDec)
   replace q22 := eq_true q22
   go_enter Tryz.func89, Tryz.ntmps89
   go_wp2
   go_ret
   exact ⟨eqFin, drawnNow⟩
  rw [if_neg c23] at H
  have c23b0 : ((bt a0 0) == 95) = false := beq_eq_false_iff_ne.mpr c23
  have c23b1 : ((bt a0 0) != 95) = true := bne_iff_ne.mpr c23
  obtain rfl := Option.some.inj H
  have p4 : 0 ≤ (0 : Int) := (by omega)
  have q4 : 0 < a0.size := (by have : (0 : Int) < (a0.size : Int) := ofDec; omega)
  have hx4 : ∀ h : 0 < a0.size, ((a0[0]'h).toNat : Int) = bt a0 0 := bt_at a0 0
  clear p4
  have qi4 : (0 < (a0.size : Int)) = True := eq_true (ofDec)
  replace q4 := eq_true q4
  have p18 : 0 ≤ (0 : Int) := (by omega)
  have q18 : 0 < a0.size := (by have : (0 : Int) < (a0.size : Int) := ofDec; omega)
  have hx18 : ∀ h : 0 < a0.size, ((a0[0]'h).toNat : Int) = bt a0 0 := bt_at a0 0
  clear p18
  have qi18 : (0 < (a0.size : Int)) = True := eq_true (ofDec)
  replace q18 := eq_true q18
  have p20 : 0 ≤ (0 : Int) := (by omega)
  have q20 : 0 < a0.size := (by have : (0 : Int) < (a0.size : Int) := ofDec; omega)
  have hx20 : ∀ h : 0 < a0.size, ((a0[0]'h).toNat : Int) = bt a0 0 := bt_at a0 0
  clear p20
  have qi20 : (0 < (a0.size : Int)) = True := eq_true (ofDec)
  replace q20 := eq_true q20
  have p22 : 0 ≤ (0 : Int) := (by omega)
  have q22 : 0 < a0.size := (by have : (0 : Int) < (a0.size : Int) := ofDec; omega)
  have hx22 : ∀ h : 0 < a0.size, ((a0[0]'h).toNat : Int) = bt a0 0 := bt_at a0 0
  clear p22
  have qi22 : (0 < (a0.size : Int)) = True := eq_true (ofDec)
  replace q22 := eq_true q22
  have p24 : 0 ≤ (0 : Int) := (by omega)
  have q24 : 0 < a0.size := (by have : (0 : Int) < (a0.size : Int) := ofDec; omega)
  have hx24 : ∀ h : 0 < a0.size, ((a0[0]'h).toNat : Int) = bt a0 0 := bt_at a0 0
  clear p24
  have qi24 : (0 < (a0.size : Int)) = True := eq_true (ofDec)
  replace q24 := eq_true q24
  go_enter Tryz.func89, Tryz.ntmps89
  go_wp2
  go_ret
  exact ⟨eqFin, drawnNow⟩
 rw [if_pos c5] at H
 have c5b0 : decide (97 ≤ (bt a0 0)) = true := decide_eq_true c5
 clear c5
 by_cases c7 : (bt a0 0) ≤ 122
 ·rw [if_pos c7] at H
  have c7b0 : decide ((bt a0 0) ≤ 122) = true := decide_eq_true c7
  clear c7
  obtain rfl := Option.some.inj H
  have p4 : 0 ≤ (0 : Int) := (by omega)
  have q4 : 0 < a0.size := (by have : (0 : Int) < (a0.size : Int) := ofDec; omega)
  have hx4 : ∀ h : 0 < a0.size, ((a0[0]'h).toNat : Int) = bt a0 0 := bt_at a0 0
  clear p4
  have qi4 : (0 < (a0.size : Int)) = True := eq_true (ofDec)
  replace q4 := eq_true q4
  have p6 : 0 ≤ (0 : Int) := (by omega)
  have q6 : 0 < a0.size := (by have : (0 : Int) < (a0.size : Int) := ofDec; omega)
  have hx6 : ∀ h : 0 < a0.size, ((a0[0]'h).toNat : Int) = bt a0 0 := bt_at a0 0
  clear p6
  have qi6 : (0 < (a0.size : Int)) = True := eq_true (ofDec)
  replace q6 := eq_true q6
  go_enter Tryz.func89, Tryz.ntmps89
  go_wp2
  go_ret
  exact ⟨eqFin, drawnNow⟩
 rw [if_neg c7] at H
 have c7b0 : decide ((bt a0 0) ≤ 122) = false := decide_eq_false c7
 clear c7
 by_cases c9 : (bt a0 0) ≥ 65
 rotate_left
 ·rw [if_neg c9] at H
  have c9b0 : decide (65 ≤ (bt a0 0)) = false := decide_eq_false c9
  clear c9
  by_cases c16 : (bt a0 0) = 95
  ·rw [if_pos c16] at H
   have c16b0 : ((bt a0 0) == 95) = true := beq_iff_eq.mpr c16
   have c16b1 : ((bt a0 0) != 95) = false := bne_eq_false_iff_eq.mpr c16
   clear c16
   obtain rfl := Option.some.inj H
   have p4 : 0 ≤ (0 : Int) := (by omega)
   have q4 : 0 < a0.size := (by have : (0 : Int) < (a0.size : Int) := ofDec; omega)
   have hx4 : ∀ h : 0 < a0.size, ((a0[0]'h).toNat : Int) = bt a0 0 := bt_at a0 0
   clear p4
   have qi4 : (0 < (a0.size : Int)) = True := eq_true (ofDec)
   replace q4 := eq_true q4
   have p6 : 0 ≤ (0 : Int) := (by omega)
   have q6 : 0 < a0.size := (by have : (0 : Int) < (a0.size : Int) := ofDec; omega)
   have hx6 : ∀ h : 0 < a0.size, ((a0[0]'h).toNat : Int) = bt a0 0 := bt_at a0 0
   clear p6
   have qi6 : (0 < (a0.size : Int)) = True := eq_true (ofDec)
   replace q6 := eq_true q6
   have p8 : 0 ≤ (0 : Int) := (by omega)
   have q8 : 0 < a0.size := (by have : (0 : Int) < (a0.size : Int) := ofDec; omega)
   have hx8 : ∀ h : 0 < a0.size, ((a0[0]'h).toNat : Int) = bt a0 0 := bt_at a0 0
   clear p8
   have qi8 : (0 < (a0.size : Int)) = True := eq_true (ofDec)
   replace q8 := eq_true q8
   have p15 : 0 ≤ (0 : Int) := (by omega)
   have q15 : 0 < a0.size := (by have : (0 : Int) < (a0.size : Int) := ofDec; omega)
   have hx15 : ∀ h : 0 < a0.size, ((a0[0]'h).toNat : Int) = bt a0 0 := bt_at a0 0
   clear p15
   have qi15 : (0 < (a0.size : Int)) = True := eq_true (ofDec)
   replace q15 := eq_true q15
   go_enter Tryz.func89, Tryz.ntmps89
   go_wp2
   go_ret
   exact ⟨eqFin, drawnNow⟩
  rw [if_neg c16] at H
  have c16b0 : ((bt a0 0) == 95) = false := beq_eq_false_iff_ne.mpr c16
  have c16b1 : ((bt a0 0) != 95) = true := bne_iff_ne.mpr c16
  obtain rfl := Option.some.inj H
  have p4 : 0 ≤ (0 : Int) := (by omega)
  have q4 : 0 < a0.size := (by have : (0 : Int) < (a0.size : Int) := ofDec; omega)
  have hx4 : ∀ h : 0 < a0.size, ((a0[0]'h).toNat : Int) = bt a0 0 := bt_at a0 0
  clear p4
  have qi4 : (0 < (a0.size : Int)) = True := eq_true (ofDec)
  replace q4 := eq_true q4
  have p6 : 0 ≤ (0 : Int) := (by omega)
  have q6 : 0 < a0.size := (by have : (0 : Int) < (a0.size : Int) := ofDec; omega)
  have hx6 : ∀ h : 0 < a0.size, ((a0[0]'h).toNat : Int) = bt a0 0 := bt_at a0 0
  clear p6
  have qi6 : (0 < (a0.size : Int)) = True := eq_true (ofDec)
  replace q6 := eq_true q6
  have p8 : 0 ≤ (0 : Int) := (by omega)
  have q8 : 0 < a0.size := (by have : (0 : Int) < (a0.size : Int) := ofDec; omega)
  have hx8 : ∀ h : 0 < a0.size, ((a0[0]'h).toNat : Int) = bt a0 0 := bt_at a0 0
  clear p8
  have qi8 : (0 < (a0.size : Int)) = True := eq_true (ofDec)
  replace q8 := eq_true q8
  have p15 : 0 ≤ (0 : Int) := (by omega)
  have q15 : 0 < a0.size := (by have : (0 : Int) < (a0.size : Int) := ofDec; omega)
  have hx15 : ∀ h : 0 < a0.size, ((a0[0]'h).toNat : Int) = bt a0 0 := bt_at a0 0
  clear p15
  have qi15 : (0 < (a0.size : Int)) = True := eq_true (ofDec)
  replace q15 := eq_true q15
  have p17 : 0 ≤ (0 : Int) := (by omega)
  have q17 : 0 < a0.size := (by have : (0 : Int) < (a0.size : Int) := ofDec; omega)
  have hx17 : ∀ h : 0 < a0.size, ((a0[0]'h).toNat : Int) = bt a0 0 := bt_at a0 0
  clear p17
  have qi17 : (0 < (a0.size : Int)) = True := eq_true (ofDec)
  replace q17 := eq_true q17
  go_enter Tryz.func89, Tryz.ntmps89
  go_wp2
  go_ret
  exact ⟨eqFin, drawnNow⟩
 rw [if_pos c9] at H
 have c9b0 : decide (65 ≤ (bt a0 0)) = true := decide_eq_true c9
 clear c9
 by_cases c11 : (bt a0 0) ≤ 90
 ·rw [if_pos c11] at H
  have c11b0 : decide ((bt a0 0) ≤ 90) = true := decide_eq_true c11
  clear c11
  obtain rfl := Option.some.inj H
  have p4 : 0 ≤ (0 : Int) := (by omega)
  have q4 : 0 < a0.size := (by have : (0 : Int) < (a0.size : Int) := ofDec; omega)
  have hx4 : ∀ h : 0 < a0.size, ((a0[0]'h).toNat : Int) = bt a0 0 := bt_at a0 0
  clear p4
  have qi4 : (0 < (a0.size : Int)) = True := eq_true (ofDec)
  replace q4 := eq_true q4
  have p6 : 0 ≤ (0 : Int) := (by omega)
  have q6 : 0 < a0.size := (by have : (0 : Int) < (a0.size : Int) := ofDec; omega)
  have hx6 : ∀ h : 0 < a0.size, ((a0[0]'h).toNat : Int) = bt a0 0 := bt_at a0 0
  clear p6
  have qi6 : (0 < (a0.size : Int)) = True := eq_true (ofDec)
  replace q6 := eq_true q6
  have p8 : 0 ≤ (0 : Int) := (by omega)
  have q8 : 0 < a0.size := (by have : (0 : Int) < (a0.size : Int) := ofDec; omega)
  have hx8 : ∀ h : 0 < a0.size, ((a0[0]'h).toNat : Int) = bt a0 0 := bt_at a0 0
  clear p8
  have qi8 : (0 < (a0.size : Int)) = True := eq_true (ofDec)
  replace q8 := eq_true q8
  have p10 : 0 ≤ (0 : Int) := (by omega)
  have q10 : 0 < a0.size := (by have : (0 : Int) < (a0.size : Int) := ofDec; omega)
  have hx10 : ∀ h : 0 < a0.size, ((a0[0]'h).toNat : Int) = bt a0 0 := bt_at a0 0
  clear p10
  have qi10 : (0 < (a0.size : Int)) = True := eq_true (ofDec)
  replace q10 := eq_true q10
  go_enter Tryz.func89, Tryz.ntmps89
  go_wp2
  go_ret
  exact ⟨eqFin, drawnNow⟩
 rw [if_neg c11] at H
 have c11b0 : decide ((bt a0 0) ≤ 90) = false := decide_eq_false c11
 clear c11
 by_cases c13 : (bt a0 0) = 95
 ·rw [if_pos c13] at H
  have c13b0 : ((bt a0 0) == 95) = true := beq_iff_eq.mpr c13
  have c13b1 : ((bt a0 0) != 95) = false := bne_eq_false_iff_eq.mpr c13
  clear c13
  obtain rfl := Option.some.inj H
  have p4 : 0 ≤ (0 : Int) := (by omega)
  have q4 : 0 < a0.size := (by have : (0 : Int) < (a0.size : Int) := ofDec; omega)
  have hx4 : ∀ h : 0 < a0.size, ((a0[0]'h).toNat : Int) = bt a0 0 := bt_at a0 0
  clear p4
  have qi4 : (0 < (a0.size : Int)) = True := eq_true (ofDec)
  replace q4 := eq_true q4
  have p6 : 0 ≤ (0 : Int) := (by omega)
  have q6 : 0 < a0.size := (by have : (0 : Int) < (a0.size : Int) := ofDec; omega)
  have hx6 : ∀ h : 0 < a0.size, ((a0[0]'h).toNat : Int) = bt a0 0 := bt_at a0 0
  clear p6
  have qi6 : (0 < (a0.size : Int)) = True := eq_true (ofDec)
  replace q6 := eq_true q6
  have p8 : 0 ≤ (0 : Int) := (by omega)
  have q8 : 0 < a0.size := (by have : (0 : Int) < (a0.size : Int) := ofDec; omega)
  have hx8 : ∀ h : 0 < a0.size, ((a0[0]'h).toNat : Int) = bt a0 0 := bt_at a0 0
  clear p8
  have qi8 : (0 < (a0.size : Int)) = True := eq_true (ofDec)
  replace q8 := eq_true q8
  have p10 : 0 ≤ (0 : Int) := (by omega)
  have q10 : 0 < a0.size := (by have : (0 : Int) < (a0.size : Int) := ofDec; omega)
  have hx10 : ∀ h : 0 < a0.size, ((a0[0]'h).toNat : Int) = bt a0 0 := bt_at a0 0
  clear p10
  have qi10 : (0 < (a0.size : Int)) = True := eq_true (ofDec)
  replace q10 := eq_true q10
  have p12 : 0 ≤ (0 : Int) := (by omega)
  have q12 : 0 < a0.size := (by have : (0 : Int) < (a0.size : Int) := ofDec; omega)
  have hx12 : ∀ h : 0 < a0.size, ((a0[0]'h).toNat : Int) = bt a0 0 := bt_at a0 0
  clear p12
  have qi12 : (0 < (a0.size : Int)) = True := eq_true (ofDec)
  replace q12 := eq_true q12
  go_enter Tryz.func89, Tryz.ntmps89
  go_wp2
  go_ret
  exact ⟨eqFin, drawnNow⟩
 rw [if_neg c13] at H
 have c13b0 : ((bt a0 0) == 95) = false := beq_eq_false_iff_ne.mpr c13
 have c13b1 : ((bt a0 0) != 95) = true := bne_iff_ne.mpr c13
 obtain rfl := Option.some.inj H
 have p4 : 0 ≤ (0 : Int) := (by omega)
 have q4 : 0 < a0.size := (by have : (0 : Int) < (a0.size : Int) := ofDec; omega)
 have hx4 : ∀ h : 0 < a0.size, ((a0[0]'h).toNat : Int) = bt a0 0 := bt_at a0 0
 clear p4
 have qi4 : (0 < (a0.size : Int)) = True := eq_true (ofDec)
 replace q4 := eq_true q4
 have p6 : 0 ≤ (0 : Int) := (by omega)
 have q6 : 0 < a0.size := (by have : (0 : Int) < (a0.size : Int) := ofDec; omega)
 have hx6 : ∀ h : 0 < a0.size, ((a0[0]'h).toNat : Int) = bt a0 0 := bt_at a0 0
 clear p6
 have qi6 : (0 < (a0.size : Int)) = True := eq_true (ofDec)
 replace q6 := eq_true q6
 have p8 : 0 ≤ (0 : Int) := (by omega)
 have q8 : 0 < a0.size := (by have : (0 : Int) < (a0.size : Int) := ofDec; omega)
 have hx8 : ∀ h : 0 < a0.size, ((a0[0]'h).toNat : Int) = bt a0 0 := bt_at a0 0
 clear p8
 have qi8 : (0 < (a0.size : Int)) = True := eq_true (ofDec)
 replace q8 := eq_true q8
 have p10 : 0 ≤ (0 : Int) := (by omega)
 have q10 : 0 < a0.size := (by have : (0 : Int) < (a0.size : Int) := ofDec; omega)
 have hx10 : ∀ h : 0 < a0.size, ((a0[0]'h).toNat : Int) = bt a0 0 := bt_at a0 0
 clear p10
 have qi10 : (0 < (a0.size : Int)) = True := eq_true (ofDec)
 replace q10 := eq_true q10
 have p12 : 0 ≤ (0 : Int) := (by omega)
 have q12 : 0 < a0.size := (by have : (0 : Int) < (a0.size : Int) := ofDec; omega)
 have hx12 : ∀ h : 0 < a0.size, ((a0[0]'h).toNat : Int) = bt a0 0 := bt_at a0 0
 clear p12
 have qi12 : (0 < (a0.size : Int)) = True := eq_true (ofDec)
 replace q12 := eq_true q12
 have p14 : 0 ≤ (0 : Int) := (by omega)
 have q14 : 0 < a0.size := (by have : (0 : Int) < (a0.size : Int) := ofDec; omega)
 have hx14 : ∀ h : 0 < a0.size, ((a0[0]'h).toNat : Int) = bt a0 0 := bt_at a0 0
 clear p14
 have qi14 : (0 < (a0.size : Int)) = True := eq_true (ofDec)
 replace q14 := eq_true q14
 go_enter Tryz.func89, Tryz.ntmps89
 go_wp2
 go_ret
 exact ⟨eqFin, drawnNow⟩
mutual
def hunks_Head.l0 : Nat → List ByteArray → Int → Option (ByteArray)
 | 0, _, _ => none
 | k + 1, x0, x5 => if x5 ≥ 0 then (if 0 ≤ x5 then (if x5 < (x0.length : Int) then ((hunks_begins.f (rdOf ByteArray.empty x0 x5)).bind fun t335 => (if t335 = true then ((lines_Bare.f (rdOf ByteArray.empty x0 x5)).bind fun t337 => ((strings_ReplaceAll.f t337 (⟨#[9]⟩ : ByteArray) (⟨#[32]⟩ : ByteArray)).bind fun t338 => (hunks_Head.l1 k t338 0))) else (hunks_Head.l0 k x0 (wrap64 (x5 - 1))))) else (none)) else (none)) else (some (⟨#[]⟩ : ByteArray))
def hunks_Head.l1 : Nat → ByteArray → Int → Option (ByteArray)
 | 0, _, _ => none
 | k + 1, x6, x7 => if x7 < (x6.size : Int) then (if x7 < 40 then (if 0 ≤ x7 then (if (bt x6 x7) ≥ 32 then (if (bt x6 x7) = 127 then (if x7 ≤ (x6.size : Int) then ((strings_TrimRight.f (x6.extract 0 (x7 : Int).toNat) (⟨#[32]⟩ : ByteArray)).bind fun t339 => (some t339)) else (none)) else (hunks_Head.l1 k x6 (wrap64 (x7 + 1)))) else (if x7 ≤ (x6.size : Int) then ((strings_TrimRight.f (x6.extract 0 (x7 : Int).toNat) (⟨#[32]⟩ : ByteArray)).bind fun t340 => (some t340)) else (none))) else (none)) else (if 0 ≤ x7 then (if x7 ≤ (x6.size : Int) then ((strings_TrimRight.f (x6.extract 0 (x7 : Int).toNat) (⟨#[32]⟩ : ByteArray)).bind fun t341 => (some t341)) else (none)) else (none))) else (if 0 ≤ x7 then (if x7 ≤ (x6.size : Int) then ((strings_TrimRight.f (x6.extract 0 (x7 : Int).toNat) (⟨#[32]⟩ : ByteArray)).bind fun t342 => (some t342)) else (none)) else (none))
end
def hunks_Head.f (k : Nat) (l0 : List ByteArray) (a1 : Int) : Option (ByteArray) := hunks_Head.l0 k l0 (wrap64 ((mn (mx a1 0) (l0.length : Int)) - 1))
theorem hunks_Head.mono_l : ∀ k, (∀ y0 y1, LeO (hunks_Head.l0 k y0 y1) (hunks_Head.l0 (k + 1) y0 y1)) ∧ (∀ y0 y1, LeO (hunks_Head.l1 k y0 y1) (hunks_Head.l1 (k + 1) y0 y1))
 | 0 => ⟨fun _ _ r h => by simp [hunks_Head.l0] at h, fun _ _ r h => by simp [hunks_Head.l1] at h⟩
 | k + 1 => by
  obtain ⟨ih0, ih1⟩ := hunks_Head.mono_l k
  refine ⟨?_, ?_⟩
  ·intro y0 y1
   unfold hunks_Head.l0
   repeat' first
   | (with_reducible exact ih0 _ _)
   | (with_reducible exact ih1 _ _)
   | (with_reducible exact LeO.refl _)
   | (with_reducible exact LeO.none _)
   | (with_reducible refine LeO.ite ?_ ?_)
   | (with_reducible refine LeO.bind ?_ (fun _ => ?_))
   | exact ih0 _ _
   | exact ih1 _ _
   | exact LeO.none _
   | refine LeO.ite ?_ ?_
   | refine LeO.bind ?_ (fun _ => ?_)
  ·intro y0 y1
   unfold hunks_Head.l1
   repeat' first
   | (with_reducible exact ih0 _ _)
   | (with_reducible exact ih1 _ _)
   | (with_reducible exact LeO.refl _)
   | (with_reducible exact LeO.none _)
   | (with_reducible refine LeO.ite ?_ ?_)
   | (with_reducible refine LeO.bind ?_ (fun _ => ?_))
   | exact ih0 _ _
   | exact ih1 _ _
   | exact LeO.none _
   | refine LeO.ite ?_ ?_
   | refine LeO.bind ?_ (fun _ => ?_)
theorem hunks_Head.mono : ∀ a0 a1 k, LeO (hunks_Head.f k a0 a1) (hunks_Head.f (k + 1) a0 a1) := by
 intro a0 a1 k
 obtain ⟨ih0, ih1⟩ := hunks_Head.mono_l k
 unfold hunks_Head.f
 repeat' first
   | (with_reducible exact ih0 _ _)
   | (with_reducible exact ih1 _ _)
   | (with_reducible exact LeO.refl _)
   | (with_reducible exact LeO.none _)
   | (with_reducible refine LeO.ite ?_ ?_)
   | (with_reducible refine LeO.bind ?_ (fun _ => ?_))
   | exact ih0 _ _
   | exact ih1 _ _
   | exact LeO.none _
   | refine LeO.ite ?_ ?_
   | refine LeO.bind ?_ (fun _ => ?_)
set_option maxHeartbeats 8000000 in
set_option maxRecDepth 100000 in
theorem hunks_Head.calls (k : Nat) (A0 : Option Addr) (c0 : Nat) (l0 : List ByteArray) (a1 : Int) (r : ByteArray) (w : World) (hr0 : Kd.C Kd.string w A0 l0.length l0) (hc0 : l0.length ≤ c0) (hGL : Glob w) (h : hunks_Head.f k l0 a1 = some r) :
  Calls Tryz.prog 49 #[.slice A0 l0.length c0, .int .i64 a1] w fun e w' => e = .returned (.string r) ∧ Below w.heap.size w w' := by
 have HR0 := Aside0.mk hr0
 have HC0 := Aside0.mk hc0
 clear hr0 hc0
 have HB := Aside0.mk (Below.refl w.heap.size w)
 have H : (hunks_Head.l0 k l0 (wrap64 ((mn (mx a1 0) (l0.length : Int)) - 1))) = some r := h
 clear h
 obtain ⟨ji3, hji3⟩ : ∃ j_ : Int, (mx a1 0) = j_ := ⟨_, rfl⟩
 replace H : (hunks_Head.l0 k l0 (wrap64 ((mn (ji3) (l0.length : Int)) - 1))) = some r := by first | (rw [hji3] at H; exact H) | (simp only [hji3] at H ⊢; exact H)
 (try (have hji3l : 0 ≤ ji3 := by (rw [← hji3]; unfold mx; (repeat' split) <;> omega)))
 (try (have hji3m : 0 ≤ ji3 := by omega))
 have hji3_ : (if a1 < 0 then 0 else a1) = ji3 := hji3
 obtain ⟨ji4, hji4⟩ : ∃ j_ : Int, (mn (ji3) (l0.length : Int)) = j_ := ⟨_, rfl⟩
 replace H : (hunks_Head.l0 k l0 (wrap64 ((ji4) - 1))) = some r := by first | (rw [hji4] at H; exact H) | (simp only [hji4] at H ⊢; exact H)
 have hji4_ : (if (l0.length : Int) < (ji3) then (l0.length : Int) else (ji3)) = ji4 := hji4
 have H' := Aside0.mk H
 clear H
 go_enter Tryz.func49, Tryz.ntmps49
 go_wp2
 go_loopg [5] k (fun kq v5 w' => ∃ (x5_1 : Int), v5 = .int .i64 x5_1 ∧ Aside0 (hunks_Head.l0 kq l0 x5_1 = some r) ∧ Aside0 (kq ≤ k) ∧ Aside0 (Below w.heap.size w w'))
 case atStart => exact ⟨(wrap64 ((ji4) - 1)), (by first | rfl | (simp; done) | (simp only [← hji4] <;> (first | rfl | simp)) | (simp [*]; done) | (simp [*] <;> rfl)), H', ⟨Nat.le_refl _⟩, ⟨belNow⟩⟩
 case round =>
  clear H'
  try clear p2
  try clear c4
  obtain ⟨x5_1, rfl, HA, HK1, HB⟩ := hrel
  cases gk with
  | zero => exact absurd HA.out (by simp [hunks_Head.l0])
  | succ k1 =>
   have H := HA.out
   clear HA
   simp only [hunks_Head.l0] at H
   by_cases c5 : x5_1 ≥ 0
   rotate_left
   ·rw [if_neg c5] at H
    have c5b0 : decide (0 ≤ x5_1) = false := decide_eq_false c5
    clear c5
    obtain rfl := Option.some.inj H
    go_wp2
    go_ret
    exact ⟨by first | rfl | (simp [errW_none, errW_some] <;> rfl) | (simp only [← hji3, ← hji4]; first | rfl | (simp [errW_none, errW_some] <;> rfl)) | (simp [*, errW_none, errW_some] <;> rfl) | (simp only [i64_w, i32_w, u8_w]; first | rfl | (simp [errW_none, errW_some] <;> rfl)) | (simp only [bne_nil, beq_nil]; first | rfl | (simp <;> rfl)), belNow⟩
   rw [if_pos c5] at H
   have c5b0 : decide (0 ≤ x5_1) = true := decide_eq_true c5
   clear c5
   by_cases c6 : 0 ≤ x5_1
   rotate_left
   ·rw [if_neg c6] at H
    exact absurd H (by simp)
   rw [if_pos c6] at H
   have c6b0 : decide (0 ≤ x5_1) = true := decide_eq_true c6
   clear c6
   by_cases c7 : x5_1 < (l0.length : Int)
   rotate_left
   ·rw [if_neg c7] at H
    exact absurd H (by simp)
   rw [if_pos c7] at H
   have c7b0 : decide (x5_1 < (l0.length : Int)) = true := decide_eq_true c7
   clear c7
   replace H := Option.bind_eq_some_iff.mp H
   obtain ⟨t335, A80, H⟩ := H
   replace H : (if t335 = true then ((lines_Bare.f (rdOf ByteArray.empty l0 x5_1)).bind fun t337 => ((strings_ReplaceAll.f t337 (⟨#[9]⟩ : ByteArray) (⟨#[32]⟩ : ByteArray)).bind fun t338 => (hunks_Head.l1 k1 t338 0))) else (hunks_Head.l0 k1 l0 (wrap64 (x5_1 - 1)))) = some r := H
   have A8 := Aside0.mk A80
   clear A80
   by_cases c9 : t335 = true
   rotate_left
   ·replace c9 := Bool.eq_false_iff.mpr c9
    subst c9
    have H1 : (hunks_Head.l0 k1 l0 (wrap64 (x5_1 - 1))) = some r := by rw [if_neg (show ¬ (false = true) by decide)] at H; exact H
    clear H
    have H := H1
    clear H1
    have H' := Aside0.mk H
    clear H
    have p334 : 0 ≤ (x5_1 : Int) := ofDec
    have q334 : x5_1 < (l0.length : Int) := ofDec
    obtain ⟨ad334, e334, hx334_0⟩ := Kd.at_string HR0.out x5_1 p334 q334
    cases e334
    replace hx334_0 := cUp HB.out hx334_0
    replace p334 := eq_true p334
    replace q334 := eq_true q334
    go_wp2_with (((with_reducible refine gate_callee (f := 89) rfl ?_); refine goesL_ (some 22) rfl rfl Tryz.func89 (by kernel_rfl) rfl #[.string (rdOf ByteArray.empty l0 x5_1)] rfl argsOk ?_; (with_reducible refine (hunks_begins.calls (rdOf ByteArray.empty l0 x5_1) false _ A8.out).mono ?_); rintro e w' ⟨rfl, ⟨nd, rfl⟩⟩; refine ⟨_, rfl, ?_⟩))
    go_roundg k1
    case measure => have := HK1.out; omega
    case rel => exact ⟨(wrap64 (x5_1 - 1)), eqNow, H', ⟨by have := HK1.out; omega⟩, ⟨belNow⟩⟩
   subst c9
   have H1 : ((lines_Bare.f (rdOf ByteArray.empty l0 x5_1)).bind fun t337 => ((strings_ReplaceAll.f t337 (⟨#[9]⟩ : ByteArray) (⟨#[32]⟩ : ByteArray)).bind fun t338 => (hunks_Head.l1 k1 t338 0))) = some r := by rw [if_pos rfl] at H; exact H
   clear H
   have H := H1
   clear H1
   replace H := Option.bind_eq_some_iff.mp H
   obtain ⟨t337, A100, H⟩ := H
   replace H : ((strings_ReplaceAll.f t337 (⟨#[9]⟩ : ByteArray) (⟨#[32]⟩ : ByteArray)).bind fun t338 => (hunks_Head.l1 k1 t338 0)) = some r := H
   have A10 := Aside0.mk A100
   clear A100
   replace H := Option.bind_eq_some_iff.mp H
   obtain ⟨t338, A110, H⟩ := H
   replace H : (hunks_Head.l1 k1 t338 0) = some r := H
   have A11 := Aside0.mk A110
   clear A110
   have H' := Aside0.mk H
   clear H
   have p334 : 0 ≤ (x5_1 : Int) := ofDec
   have q334 : x5_1 < (l0.length : Int) := ofDec
   obtain ⟨ad334, e334, hx334_0⟩ := Kd.at_string HR0.out x5_1 p334 q334
   cases e334
   replace hx334_0 := cUp HB.out hx334_0
   replace p334 := eq_true p334
   replace q334 := eq_true q334
   go_wp2_with (first | ((with_reducible refine gate_callee (f := 89) rfl ?_); refine goesL_ (some 22) rfl rfl Tryz.func89 (by kernel_rfl) rfl #[.string (rdOf ByteArray.empty l0 x5_1)] rfl argsOk ?_; (with_reducible refine (hunks_begins.calls (rdOf ByteArray.empty l0 x5_1) true _ A8.out).mono ?_); rintro e w' ⟨rfl, ⟨nd, rfl⟩⟩; refine ⟨_, rfl, ?_⟩; have p336 : 0 ≤ (x5_1 : Int) := ofDec; have q336 : x5_1 < (l0.length : Int) := ofDec; obtain ⟨ad336, e336, hx336_0⟩ := Kd.at_string HR0.out x5_1 p336 q336; obtain rfl : ad334 = ad336 := (by injection e336); replace hx336_0 := (HB.out.cell (World.block_lt_of_cell? w _ hx336_0)).trans hx336_0; replace p336 := eq_true p336; replace q336 := eq_true q336) | ((with_reducible refine gate_callee (f := 91) rfl ?_); refine goesL_ (some 28) rfl rfl Tryz.func91 (by kernel_rfl) rfl #[.string (rdOf ByteArray.empty l0 x5_1)] rfl argsOk ?_; (with_reducible refine (lines_Bare.calls (rdOf ByteArray.empty l0 x5_1) t337 _ A10.out).mono ?_); rintro e w' ⟨rfl, ⟨nd, rfl⟩⟩; refine ⟨_, rfl, ?_⟩) | ((with_reducible refine gate_callee (f := 90) rfl ?_); refine goesL_ (some 29) rfl rfl Tryz.func90 (by kernel_rfl) rfl #[.string t337, .string (⟨#[9]⟩ : ByteArray), .string (⟨#[32]⟩ : ByteArray)] rfl argsOk ?_; (with_reducible refine (strings_ReplaceAll.calls t337 (⟨#[9]⟩ : ByteArray) (⟨#[32]⟩ : ByteArray) t338 _ ?side1 A11.out).mono ?_); (case side1 => exact Glob.below hGL belNow); rintro e w12 ⟨rfl, hb⟩; refine ⟨_, rfl, ?_⟩; have n0_ := Aside0.mk (below_step belNow hb); clear HB; have HB := n0_; clear n0_; (try clear hb); (try clear hb2); (try clear hk); (try clear hi)))
   go_loopg [7] k1 (fun kq v7 w' => ∃ (x7_2 : Int), v7 = .int .i64 x7_2 ∧ Aside0 (hunks_Head.l1 kq t338 x7_2 = some r) ∧ Aside0 (kq ≤ k1) ∧ Aside0 (Below w.heap.size w w'))
   case atStart => exact ⟨(0), eqNow, H', ⟨Nat.le_refl _⟩, ⟨belNow⟩⟩
   case round =>
    clear H'
    try clear p2
    try clear p3
    try clear q3
    try clear hx3
    try clear c4
    try clear c5
    try clear c5b0
    try clear c6
    try clear c6b0
    try clear p6
    try clear c7
    try clear c7b0
    try clear c8
    try clear c9
    try clear hx334_0
    try clear hx336_0
    try clear p2
    try clear p334
    try clear p336
    try clear q334
    try clear q336
    obtain ⟨x7_2, rfl, HA, HK2, HB⟩ := hrel
    cases gk with
    | zero => exact absurd HA.out (by simp [hunks_Head.l1])
    | succ k2 =>
     have H := HA.out
     clear HA
     simp only [hunks_Head.l1] at H
     by_cases c13 : x7_2 < (t338.size : Int)
     rotate_left
     ·rw [if_neg c13] at H
      have c13b0 : decide (x7_2 < (t338.size : Int)) = false := decide_eq_false c13
      clear c13
      by_cases c29 : 0 ≤ x7_2
      rotate_left
      ·rw [if_neg c29] at H
       exact absurd H (by simp)
      rw [if_pos c29] at H
      have c29b0 := eq_true c29
      have c29b1 : decide (0 ≤ x7_2) = true := decide_eq_true c29
      clear c29
      by_cases c30 : x7_2 ≤ (t338.size : Int)
      rotate_left
      ·rw [if_neg c30] at H
       exact absurd H (by simp)
      rw [if_pos c30] at H
      have c30b0 := eq_true c30
      have c30b1 : decide (x7_2 ≤ (t338.size : Int)) = true := decide_eq_true c30
      clear c30
      replace H := Option.bind_eq_some_iff.mp H
      obtain ⟨t342, A310, H⟩ := H
      replace H : (some t342) = some r := H
      have A31 := Aside0.mk A310
      clear A310
      obtain rfl := Option.some.inj H
      go_wp2_with (((with_reducible refine gate_callee (f := 92) rfl ?_); refine goesL_ (some 55) rfl rfl Tryz.func92 (by kernel_rfl) rfl #[.string (t338.extract 0 (x7_2 : Int).toNat), .string (⟨#[32]⟩ : ByteArray)] rfl argsOk ?_; (with_reducible refine (strings_TrimRight.calls (t338.extract 0 (x7_2 : Int).toNat) (⟨#[32]⟩ : ByteArray) t342 _ A31.out).mono ?_); rintro e w' ⟨rfl, ⟨nd, rfl⟩⟩; refine ⟨_, rfl, ?_⟩))
      go_ret
      exact ⟨by first | rfl | (simp [errW_none, errW_some] <;> rfl) | (simp only [← hji3, ← hji4]; first | rfl | (simp [errW_none, errW_some] <;> rfl)) | (simp [*, errW_none, errW_some] <;> rfl) | (simp only [i64_w, i32_w, u8_w]; first | rfl | (simp [errW_none, errW_some] <;> rfl)) | (simp only [bne_nil, beq_nil]; first | rfl | (simp <;> rfl)), belNow⟩
     rw [if_pos c13] at H
     have c13b0 : decide (x7_2 < (t338.size : Int)) = true := decide_eq_true c13
     clear c13
     by_cases c14 : x7_2 < 40
     rotate_left
     ·rw [if_neg c14] at H
      have c14b0 : decide (x7_2 < 40) = false := decide_eq_false c14
      clear c14
      by_cases c26 : 0 ≤ x7_2
      rotate_left
      ·rw [if_neg c26] at H
       exact absurd H (by simp)
      rw [if_pos c26] at H
      have c26b0 := eq_true c26
      have c26b1 : decide (0 ≤ x7_2) = true := decide_eq_true c26
      clear c26
      by_cases c27 : x7_2 ≤ (t338.size : Int)
      rotate_left
      ·rw [if_neg c27] at H
       exact absurd H (by simp)
      rw [if_pos c27] at H
      have c27b0 := eq_true c27
      have c27b1 : decide (x7_2 ≤ (t338.size : Int)) = true := decide_eq_true c27
      clear c27
      replace H := Option.bind_eq_some_iff.mp H
      obtain ⟨t341, A280, H⟩ := H
      replace H : (some t341) = some r := H
      have A28 := Aside0.mk A280
      clear A280
      obtain rfl := Option.some.inj H
      go_wp2_with (((with_reducible refine gate_callee (f := 92) rfl ?_); refine goesL_ (some 55) rfl rfl Tryz.func92 (by kernel_rfl) rfl #[.string (t338.extract 0 (x7_2 : Int).toNat), .string (⟨#[32]⟩ : ByteArray)] rfl argsOk ?_; (with_reducible refine (strings_TrimRight.calls (t338.extract 0 (x7_2 : Int).toNat) (⟨#[32]⟩ : ByteArray) t341 _ A28.out).mono ?_); rintro e w' ⟨rfl, ⟨nd, rfl⟩⟩; refine ⟨_, rfl, ?_⟩))
      go_ret
      exact ⟨by first | rfl | (simp [errW_none, errW_some] <;> rfl) | (simp only [← hji3, ← hji4]; first | rfl | (simp [errW_none, errW_some] <;> rfl)) | (simp [*, errW_none, errW_some] <;> rfl) | (simp only [i64_w, i32_w, u8_w]; first | rfl | (simp [errW_none, errW_some] <;> rfl)) | (simp only [bne_nil, beq_nil]; first | rfl | (simp <;> rfl)), belNow⟩
     rw [if_pos c14] at H
     have c14b0 : decide (x7_2 < 40) = true := decide_eq_true c14
     clear c14
     by_cases c15 : 0 ≤ x7_2
     rotate_left
     ·rw [if_neg c15] at H
      exact absurd H (by simp)
     rw [if_pos c15] at H
     have c15b0 : decide (0 ≤ x7_2) = true := decide_eq_true c15
     clear c15
     by_cases c17 : (bt t338 x7_2) ≥ 32
     rotate_left
     ·rw [if_neg c17] at H
      have c17b0 : decide (32 ≤ (bt t338 x7_2)) = false := decide_eq_false c17
      clear c17
      have c23b0 := eq_true (ofDec : 0 ≤ x7_2)
      by_cases c24 : x7_2 ≤ (t338.size : Int)
      rotate_left
      ·rw [if_neg c24] at H
       exact absurd H (by simp)
      rw [if_pos c24] at H
      have c24b0 := eq_true c24
      have c24b1 : decide (x7_2 ≤ (t338.size : Int)) = true := decide_eq_true c24
      clear c24
      replace H := Option.bind_eq_some_iff.mp H
      obtain ⟨t340, A250, H⟩ := H
      replace H : (some t340) = some r := H
      have A25 := Aside0.mk A250
      clear A250
      obtain rfl := Option.some.inj H
      have p16 : 0 ≤ (x7_2 : Int) := ofDec
      have q16 : x7_2 < (t338.size : Int) := ofDec
      have hx16 := bt_at t338 x7_2
      replace p16 := eq_true p16
      replace q16 := eq_true q16
      go_wp2_with (((with_reducible refine gate_callee (f := 92) rfl ?_); refine goesL_ (some 55) rfl rfl Tryz.func92 (by kernel_rfl) rfl #[.string (t338.extract 0 (x7_2 : Int).toNat), .string (⟨#[32]⟩ : ByteArray)] rfl argsOk ?_; (with_reducible refine (strings_TrimRight.calls (t338.extract 0 (x7_2 : Int).toNat) (⟨#[32]⟩ : ByteArray) t340 _ A25.out).mono ?_); rintro e w' ⟨rfl, ⟨nd, rfl⟩⟩; refine ⟨_, rfl, ?_⟩))
      go_ret
      exact ⟨by first | rfl | (simp [errW_none, errW_some] <;> rfl) | (simp only [← hji3, ← hji4]; first | rfl | (simp [errW_none, errW_some] <;> rfl)) | (simp [*, errW_none, errW_some] <;> rfl) | (simp only [i64_w, i32_w, u8_w]; first | rfl | (simp [errW_none, errW_some] <;> rfl)) | (simp only [bne_nil, beq_nil]; first | rfl | (simp <;> rfl)), belNow⟩
     rw [if_pos c17] at H
     have c17b0 : decide (32 ≤ (bt t338 x7_2)) = true := decide_eq_true c17
     clear c17
     by_cases c19 : (bt t338 x7_2) = 127
     rotate_left
     ·rw [if_neg c19] at H
      have c19b0 : ((bt t338 x7_2) == 127) = false := beq_eq_false_iff_ne.mpr c19
      have c19b1 : ((bt t338 x7_2) != 127) = true := bne_iff_ne.mpr c19
      have H' := Aside0.mk H
      clear H
      have p16 : 0 ≤ (x7_2 : Int) := ofDec
      have q16 : x7_2 < (t338.size : Int) := ofDec
      have hx16 := bt_at t338 x7_2
      replace p16 := eq_true p16
      replace q16 := eq_true q16
      have p18 : 0 ≤ (x7_2 : Int) := ofDec
      have q18 : x7_2 < (t338.size : Int) := ofDec
      have hx18 := bt_at t338 x7_2
      replace p18 := eq_true p18
      replace q18 := eq_true q18
      go_wp2
      go_roundg k2
      case measure => have := HK1.out; have := HK2.out; omega
      case rel => exact ⟨(wrap64 (x7_2 + 1)), eqNow, H', ⟨by have := HK1.out; have := HK2.out; omega⟩, ⟨belNow⟩⟩
     rw [if_pos c19] at H
     have c19b0 : ((bt t338 x7_2) == 127) = true := beq_iff_eq.mpr c19
     have c19b1 : ((bt t338 x7_2) != 127) = false := bne_eq_false_iff_eq.mpr c19
     clear c19
     have c20b0 := eq_true (ofDec : 0 ≤ x7_2)
     by_cases c21 : x7_2 ≤ (t338.size : Int)
     rotate_left
     ·rw [if_neg c21] at H
      exact absurd H (by simp)
     rw [if_pos c21] at H
     have c21b0 := eq_true c21
     have c21b1 : decide (x7_2 ≤ (t338.size : Int)) = true := decide_eq_true c21
     clear c21
     replace H := Option.bind_eq_some_iff.mp H
     obtain ⟨t339, A220, H⟩ := H
     replace H : (some t339) = some r := H
     have A22 := Aside0.mk A220
     clear A220
     obtain rfl := Option.some.inj H
     have p16 : 0 ≤ (x7_2 : Int) := ofDec
     have q16 : x7_2 < (t338.size : Int) := ofDec
     have hx16 := bt_at t338 x7_2
     replace p16 := eq_true p16
     replace q16 := eq_true q16
     have p18 : 0 ≤ (x7_2 : Int) := ofDec
     have q18 : x7_2 < (t338.size : Int) := ofDec
     have hx18 := bt_at t338 x7_2
     replace p18 := eq_true p18
     replace q18 := eq_true q18
     go_wp2_with (((with_reducible refine gate_callee (f := 92) rfl ?_); refine goesL_ (some 55) rfl rfl Tryz.func92 (by kernel_rfl) rfl #[.string (t338.extract 0 (x7_2 : Int).toNat), .string (⟨#[32]⟩ : ByteArray)] rfl argsOk ?_; (with_reducible refine (strings_TrimRight.calls (t338.extract 0 (x7_2 : Int).toNat) (⟨#[32]⟩ : ByteArray) t339 _ A22.out).mono ?_); rintro e w' ⟨rfl, ⟨nd, rfl⟩⟩; refine ⟨_, rfl, ?_⟩))
     go_ret
     exact ⟨by first | rfl | (simp [errW_none, errW_some] <;> rfl) | (simp only [← hji3, ← hji4]; first | rfl | (simp [errW_none, errW_some] <;> rfl)) | (simp [*, errW_none, errW_some] <;> rfl) | (simp only [i64_w, i32_w, u8_w]; first | rfl | (simp [errW_none, errW_some] <;> rfl)) | (simp only [bne_nil, beq_nil]; first | rfl | (simp <;> rfl)), belNow⟩
end Go.Proofs.YtecjoofjiockkaaGreatDoor.Pp
