import Derived.Test.YtecjoofjiockkaaDoorESt
import Derived.Test.YtecjoofjiockkaaDoorPp0
import Derived.Test.YtecjoofjiockkaaDoorPp3
namespace Go.Proofs.YtecjoofjiockkaaDoor.Pp
open Go.RowKit Go.Proofs.YtecjoofjiockkaaDoor.Ext Go.Proofs.YtecjoofjiockkaaDoorW.PrintWords Go.Proofs.YtecjoofjiockkaaDoorW.PrintLast Go.Proofs.YtecjoofjiockkaaDoorW.PrintMore
attribute [local go_sem] max2_int min2_int max_two min_two max_three min_three max_four min_four
def hunks_begins.f (a0 : ByteArray) : Option (Bool) := if a0.toList = ([] : List UInt8) then (some false) else (if 0 < (a0.size : Int) then (if (bt a0 0) ≥ 97 then (if (bt a0 0) ≤ 122 then (some true) else (if (bt a0 0) ≥ 65 then (if (bt a0 0) ≤ 90 then (some true) else (if (bt a0 0) = 95 then (some true) else (some ((bt a0 0) == 36)))) else (if (bt a0 0) = 95 then (some true) else (some ((bt a0 0) == 36))))) else (if (bt a0 0) ≥ 65 then (if (bt a0 0) ≤ 90 then (some true) else (if (bt a0 0) = 95 then (some true) else (some ((bt a0 0) == 36)))) else (if (bt a0 0) = 95 then (some true) else (some ((bt a0 0) == 36))))) else (none))
set_option maxHeartbeats 8000000 in
set_option maxRecDepth 100000 in
theorem hunks_begins.calls (a0 : ByteArray) (r : Bool) (w : World) (h : hunks_begins.f a0 = some r) :
  Calls Tryd.prog 44 #[.string a0] w fun e w' => e = .returned (.bool r) ∧ Drawn0 w w' := by
 have H := h
 clear h
 unfold hunks_begins.f at H
 replace H := itE H
 rcases H with ⟨-, c2b0, c2b1, H⟩ | ⟨c2, c2b0, c2b1, H⟩
 ·obtain rfl := Option.some.inj H
  go_enter Tryd.func44, Tryd.ntmps44
  go_wp2
  go_ret
  exact ⟨eqFin, drawnNow⟩
 replace H := itLn H
 rcases H with ⟨_, _, H⟩ | ⟨c3, c3b0, H⟩
 ·cases H
 have c3b1 : decide (0 < a0.size) = true := decide_eq_true (by omega)
 clear c3
 replace H := itHn H
 rcases H with ⟨-, c5b0, H⟩ | ⟨-, c5b0, H⟩
 ·replace H := itHn H
  rcases H with ⟨-, c19b0, H⟩ | ⟨-, c19b0, H⟩
  ·replace H := itE H
   rcases H with ⟨-, c26b0, c26b1, H⟩ | ⟨c26, c26b0, c26b1, H⟩
   ·obtain rfl := Option.some.inj H
    have p4 : 0 ≤ (0 : Int) := (by omega)
    have q4 : 0 < a0.size := (by have : (0 : Int) < (a0.size : Int) := ofDec; omega)
    have hx4 : ∀ h : 0 < a0.size, ((a0[0]'h).toNat : Int) = bt a0 0 := bt_at a0 0
    clear p4
    have qi4 : (0 < (a0.size : Int)) = True := eq_true (ofDec)
    replace q4 := eq_true q4
    have p18 : 0 ≤ (0 : Int) := (by omega)
    have q18 : 0 < a0.size := (by have : (0 : Int) < (a0.size : Int) := ofDec; omega)
    have hx18 : ∀ h : 0 < a0.size, ((a0[0]'h).toNat : Int) = bt a0 0 := bt_at a0 0
    clear p18
    have qi18 : (0 < (a0.size : Int)) = True := eq_true (ofDec)
    replace q18 := eq_true q18
    have p25 : 0 ≤ (0 : Int) := (by omega)
    have q25 : 0 < a0.size := (by have : (0 : Int) < (a0.size : Int) := ofDec; omega)
    have hx25 : ∀ h : 0 < a0.size, ((a0[0]'h).toNat : Int) = bt a0 0 := bt_at a0 0
    clear p25
    have qi25 : (0 < (a0.size : Int)) = True := eq_true (ofDec)
    replace q25 := eq_true q25
    go_enter Tryd.func44, Tryd.ntmps44
    go_wp2
    go_ret
    exact ⟨eqFin, drawnNow⟩
   obtain rfl := Option.some.inj H
   have p4 : 0 ≤ (0 : Int) := (by omega)
   have q4 : 0 < a0.size := (by have : (0 : Int) < (a0.size : Int) := ofDec; omega)
   have hx4 : ∀ h : 0 < a0.size, ((a0[0]'h).toNat : Int) = bt a0 0 := bt_at a0 0
   clear p4
   have qi4 : (0 < (a0.size : Int)) = True := eq_true (ofDec)
   replace q4 := eq_true q4
   have p18 : 0 ≤ (0 : Int) := (by omega)
   have q18 : 0 < a0.size := (by have : (0 : Int) < (a0.size : Int) := ofDec; omega)
   have hx18 : ∀ h : 0 < a0.size, ((a0[0]'h).toNat : Int) = bt a0 0 := bt_at a0 0
   clear p18
   have qi18 : (0 < (a0.size : Int)) = True := eq_true (ofDec)
   replace q18 := eq_true q18
   have p25 : 0 ≤ (0 : Int) := (by omega)
   have q25 : 0 < a0.size := (by have : (0 : Int) < (a0.size : Int) := ofDec; omega)
   have hx25 : ∀ h : 0 < a0.size, ((a0[0]'h).toNat : Int) = bt a0 0 := bt_at a0 0
   clear p25
   have qi25 : (0 < (a0.size : Int)) = True := eq_true (ofDec)
   replace q25 := eq_true q25
   have p27 : 0 ≤ (0 : Int) := (by omega)
   have q27 : 0 < a0.size := (by have : (0 : Int) < (a0.size : Int) := ofDec; omega)
   have hx27 : ∀ h : 0 < a0.size, ((a0[0]'h).toNat : Int) = bt a0 0 := bt_at a0 0
   clear p27
   have qi27 : (0 < (a0.size : Int)) = True := eq_true (ofDec)
   replace q27 := eq_true q27
   go_enter Tryd.func44, Tryd.ntmps44
   go_wp2
   go_ret
   exact ⟨eqFin, drawnNow⟩
  replace H := itL H
  rcases H with ⟨-, c21b0, H⟩ | ⟨-, c21b0, H⟩
  ·obtain rfl := Option.some.inj H
   have p4 : 0 ≤ (0 : Int) := (by omega)
   have q4 : 0 < a0.size := (by have : (0 : Int) < (a0.size : Int) := ofDec; omega)
   have hx4 : ∀ h : 0 < a0.size, ((a0[0]'h).toNat : Int) = bt a0 0 := bt_at a0 0
   clear p4
   have qi4 : (0 < (a0.size : Int)) = True := eq_true (ofDec)
   replace q4 := eq_true q4
   have p18 : 0 ≤ (0 : Int) := (by omega)
   have q18 : 0 < a0.size := (by have : (0 : Int) < (a0.size : Int) := ofDec; omega)
   have hx18 : ∀ h : 0 < a0.size, ((a0[0]'h).toNat : Int) = bt a0 0 := bt_at a0 0
   clear p18
   have qi18 : (0 < (a0.size : Int)) = True := eq_true (ofDec)
   replace q18 := eq_true q18
   have p20 : 0 ≤ (0 : Int) := (by omega)
   have q20 : 0 < a0.size := (by have : (0 : Int) < (a0.size : Int) := ofDec; omega)
   have hx20 : ∀ h : 0 < a0.size, ((a0[0]'h).toNat : Int) = bt a0 0 := bt_at a0 0
   clear p20
   have qi20 : (0 < (a0.size : Int)) = True := eq_true (ofDec)
   replace q20 := eq_true q20
   go_enter Tryd.func44, Tryd.ntmps44
   go_wp2
   go_ret
   exact ⟨eqFin, drawnNow⟩
  replace H := itE H
  rcases H with ⟨-, c23b0, c23b1, H⟩ | ⟨c23, c23b0, c23b1, H⟩
  ·obtain rfl := Option.some.inj H
   have p4 : 0 ≤ (0 : Int) := (by omega)
   have q4 : 0 < a0.size := (by have : (0 : Int) < (a0.size : Int) := ofDec; omega)
   have hx4 : ∀ h : 0 < a0.size, ((a0[0]'h).toNat : Int) = bt a0 0 := bt_at a0 0
   clear p4
   have qi4 : (0 < (a0.size : Int)) = True := eq_true (ofDec)
   replace q4 := eq_true q4
   have p18 : 0 ≤ (0 : Int) := (by omega)
   have q18 : 0 < a0.size := (by have : (0 : Int) < (a0.size : Int) := ofDec; omega)
   have hx18 : ∀ h : 0 < a0.size, ((a0[0]'h).toNat : Int) = bt a0 0 := bt_at a0 0
   clear p18
   have qi18 : (0 < (a0.size : Int)) = True := eq_true (ofDec)
   replace q18 := eq_true q18
   have p20 : 0 ≤ (0 : Int) := (by omega)
   have q20 : 0 < a0.size := (by have : (0 : Int) < (a0.size : Int) := ofDec; omega)
   have hx20 : ∀ h : 0 < a0.size, ((a0[0]'h).toNat : Int) = bt a0 0 := bt_at a0 0
   clear p20
   have qi20 : (0 < (a0.size : Int)) = True := eq_true (ofDec)
   replace q20 := eq_true q20
   have p22 : 0 ≤ (0 : Int) := (by omega)
   have q22 : 0 < a0.size := (by have : (0 : Int) < (a0.size : Int) := ofDec; omega)
   have hx22 : ∀ h : 0 < a0.size, ((a0[0]'h).toNat : Int) = bt a0 0 := bt_at a0 0
   clear p22
   have qi22 : (0 < (a0.size : Int)) = True := eq_true (ofDec)
   replace q22 := eq_true q22
   go_enter Tryd.func44, Tryd.ntmps44
   go_wp2
   go_ret
   exact ⟨eqFin, drawnNow⟩
  obtain rfl := Option.some.inj H
  have p4 : 0 ≤ (0 : Int) := (by omega)
  have q4 : 0 < a0.size := (by have : (0 : Int) < (a0.size : Int) := ofDec; omega)
  have hx4 : ∀ h : 0 < a0.size, ((a0[0]'h).toNat : Int) = bt a0 0 := bt_at a0 0
  clear p4
  have qi4 : (0 < (a0.size : Int)) = True := eq_true (ofDec)
  replace q4 := eq_true q4
  have p18 : 0 ≤ (0 : Int) := (by omega)
  have q18 : 0 < a0.size := (by have : (0 : Int) < (a0.size : Int) := ofDec; omega)
  have hx18 : ∀ h : 0 < a0.size, ((a0[0]'h).toNat : Int) = bt a0 0 := bt_at a0 0
  clear p18
  have qi18 : (0 < (a0.size : Int)) = True := eq_true (ofDec)
  replace q18 := eq_true q18
  have p20 : 0 ≤ (0 : Int) := (by omega)
  have q20 : 0 < a0.size := (by have : (0 : Int) < (a0.size : Int) := ofDec; omega)
  have hx20 : ∀ h : 0 < a0.size, ((a0[0]'h).toNat : Int) = bt a0 0 := bt_at a0 0
  clear p20
  have qi20 : (0 < (a0.size : Int)) = True := eq_true (ofDec)
  replace q20 := eq_true q20
  have p22 : 0 ≤ (0 : Int) := (by omega)
  have q22 : 0 < a0.size := (by have : (0 : Int) < (a0.size : Int) := ofDec; omega)
  have hx22 : ∀ h : 0 < a0.size, ((a0[0]'h).toNat : Int) = bt a0 0 := bt_at a0 0
  clear p22
  have qi22 : (0 < (a0.size : Int)) = True := eq_true (ofDec)
  replace q22 := eq_true q22
  have p24 : 0 ≤ (0 : Int) := (by omega)
  have q24 : 0 < a0.size := (by have : (0 : Int) < (a0.size : Int) := ofDec; omega)
  have hx24 : ∀ h : 0 < a0.size, ((a0[0]'h).toNat : Int) = bt a0 0 := bt_at a0 0
  clear p24
  have qi24 : (0 < (a0.size : Int)) = True := eq_true (ofDec)
  replace q24 := eq_true q24
  go_enter Tryd.func44, Tryd.ntmps44
  go_wp2
  go_ret
  exact ⟨eqFin, drawnNow⟩
 replace H := itL H
 rcases H with ⟨-, c7b0, H⟩ | ⟨-, c7b0, H⟩
 ·obtain rfl := Option.some.inj H
  have p4 : 0 ≤ (0 : Int) := (by omega)
  have q4 : 0 < a0.size := (by have : (0 : Int) < (a0.size : Int) := ofDec; omega)
  have hx4 : ∀ h : 0 < a0.size, ((a0[0]'h).toNat : Int) = bt a0 0 := bt_at a0 0
  clear p4
  have qi4 : (0 < (a0.size : Int)) = True := eq_true (ofDec)
  replace q4 := eq_true q4
  have p6 : 0 ≤ (0 : Int) := (by omega)
  have q6 : 0 < a0.size := (by have : (0 : Int) < (a0.size : Int) := ofDec; omega)
  have hx6 : ∀ h : 0 < a0.size, ((a0[0]'h).toNat : Int) = bt a0 0 := bt_at a0 0
  clear p6
  have qi6 : (0 < (a0.size : Int)) = True := eq_true (ofDec)
  replace q6 := eq_true q6
  go_enter Tryd.func44, Tryd.ntmps44
  go_wp2
  go_ret
  exact ⟨eqFin, drawnNow⟩
 replace H := itHn H
 rcases H with ⟨-, c9b0, H⟩ | ⟨-, c9b0, H⟩
 ·replace H := itE H
  rcases H with ⟨-, c16b0, c16b1, H⟩ | ⟨c16, c16b0, c16b1, H⟩
  ·obtain rfl := Option.some.inj H
   have p4 : 0 ≤ (0 : Int) := (by omega)
   have q4 : 0 < a0.size := (by have : (0 : Int) < (a0.size : Int) := ofDec; omega)
   have hx4 : ∀ h : 0 < a0.size, ((a0[0]'h).toNat : Int) = bt a0 0 := bt_at a0 0
   clear p4
   have qi4 : (0 < (a0.size : Int)) = True := eq_true (ofDec)
   replace q4 := eq_true q4
   have p6 : 0 ≤ (0 : Int) := (by omega)
   have q6 : 0 < a0.size := (by have : (0 : Int) < (a0.size : Int) := ofDec; omega)
   have hx6 : ∀ h : 0 < a0.size, ((a0[0]'h).toNat : Int) = bt a0 0 := bt_at a0 0
   clear p6
   have qi6 : (0 < (a0.size : Int)) = True := eq_true (ofDec)
   replace q6 := eq_true q6
   have p8 : 0 ≤ (0 : Int) := (by omega)
   have q8 : 0 < a0.size := (by have : (0 : Int) < (a0.size : Int) := ofDec; omega)
   have hx8 : ∀ h : 0 < a0.size, ((a0[0]'h).toNat : Int) = bt a0 0 := bt_at a0 0
   clear p8
   have qi8 : (0 < (a0.size : Int)) = True := eq_true (ofDec)
   replace q8 := eq_true q8
   have p15 : 0 ≤ (0 : Int) := (by omega)
   have q15 : 0 < a0.size := (by have : (0 : Int) < (a0.size : Int) := ofDec; omega)
   have hx15 : ∀ h : 0 < a0.size, ((a0[0]'h).toNat : Int) = bt a0 0 := bt_at a0 0
   clear p15
   have qi15 : (0 < (a0.size : Int)) = True := eq_true (ofDec)
   replace q15 := eq_true q15
   go_enter Tryd.func44, Tryd.ntmps44
   go_wp2
   go_ret
   exact ⟨eqFin, drawnNow⟩
  obtain rfl := Option.some.inj H
  have p4 : 0 ≤ (0 : Int) := (by omega)
  have q4 : 0 < a0.size := (by have : (0 : Int) < (a0.size : Int) := ofDec; omega)
  have hx4 : ∀ h : 0 < a0.size, ((a0[0]'h).toNat : Int) = bt a0 0 := bt_at a0 0
  clear p4
  have qi4 : (0 < (a0.size : Int)) = True := eq_true (ofDec)
  replace q4 := eq_true q4
  have p6 : 0 ≤ (0 : Int) := (by omega)
  have q6 : 0 < a0.size := (by have : (0 : Int) < (a0.size : Int) := ofDec; omega)
  have hx6 : ∀ h : 0 < a0.size, ((a0[0]'h).toNat : Int) = bt a0 0 := bt_at a0 0
  clear p6
  have qi6 : (0 < (a0.size : Int)) = True := eq_true (ofDec)
  replace q6 := eq_true q6
  have p8 : 0 ≤ (0 : Int) := (by omega)
  have q8 : 0 < a0.size := (by have : (0 : Int) < (a0.size : Int) := ofDec; omega)
  have hx8 : ∀ h : 0 < a0.size, ((a0[0]'h).toNat : Int) = bt a0 0 := bt_at a0 0
  clear p8
  have qi8 : (0 < (a0.size : Int)) = True := eq_true (ofDec)
  replace q8 := eq_true q8
  have p15 : 0 ≤ (0 : Int) := (by omega)
  have q15 : 0 < a0.size := (by have : (0 : Int) < (a0.size : Int) := ofDec; omega)
  have hx15 : ∀ h : 0 < a0.size, ((a0[0]'h).toNat : Int) = bt a0 0 := bt_at a0 0
  clear p15
  have qi15 : (0 < (a0.size : Int)) = True := eq_true (ofDec)
  replace q15 := eq_true q15
  have p17 : 0 ≤ (0 : Int) := (by omega)
  have q17 : 0 < a0.size := (by have : (0 : Int) < (a0.size : Int) := ofDec; omega)
  have hx17 : ∀ h : 0 < a0.size, ((a0[0]'h).toNat : Int) = bt a0 0 := bt_at a0 0
  clear p17
  have qi17 : (0 < (a0.size : Int)) = True := eq_true (ofDec)
  replace q17 := eq_true q17
  go_enter Tryd.func44, Tryd.ntmps44
  go_wp2
  go_ret
  exact ⟨eqFin, drawnNow⟩
 replace H := itL H
 rcases H with ⟨-, c11b0, H⟩ | ⟨-, c11b0, H⟩
 ·obtain rfl := Option.some.inj H
  have p4 : 0 ≤ (0 : Int) := (by omega)
  have q4 : 0 < a0.size := (by have : (0 : Int) < (a0.size : Int) := ofDec; omega)
  have hx4 : ∀ h : 0 < a0.size, ((a0[0]'h).toNat : Int) = bt a0 0 := bt_at a0 0
  clear p4
  have qi4 : (0 < (a0.size : Int)) = True := eq_true (ofDec)
  replace q4 := eq_true q4
  have p6 : 0 ≤ (0 : Int) := (by omega)
  have q6 : 0 < a0.size := (by have : (0 : Int) < (a0.size : Int) := ofDec; omega)
  have hx6 : ∀ h : 0 < a0.size, ((a0[0]'h).toNat : Int) = bt a0 0 := bt_at a0 0
  clear p6
  have qi6 : (0 < (a0.size : Int)) = True := eq_true (ofDec)
  replace q6 := eq_true q6
  have p8 : 0 ≤ (0 : Int) := (by omega)
  have q8 : 0 < a0.size := (by have : (0 : Int) < (a0.size : Int) := ofDec; omega)
  have hx8 : ∀ h : 0 < a0.size, ((a0[0]'h).toNat : Int) = bt a0 0 := bt_at a0 0
  clear p8
  have qi8 : (0 < (a0.size : Int)) = True := eq_true (ofDec)
  replace q8 := eq_true q8
  have p10 : 0 ≤ (0 : Int) := (by omega)
  have q10 : 0 < a0.size := (by have : (0 : Int) < (a0.size : Int) := ofDec; omega)
  have hx10 : ∀ h : 0 < a0.size, ((a0[0]'h).toNat : Int) = bt a0 0 := bt_at a0 0
  clear p10
  have qi10 : (0 < (a0.size : Int)) = True := eq_true (ofDec)
  replace q10 := eq_true q10
  go_enter Tryd.func44, Tryd.ntmps44
  go_wp2
  go_ret
  exact ⟨eqFin, drawnNow⟩
 replace H := itE H
 rcases H with ⟨-, c13b0, c13b1, H⟩ | ⟨c13, c13b0, c13b1, H⟩
 ·obtain rfl := Option.some.inj H
  have p4 : 0 ≤ (0 : Int) := (by omega)
  have q4 : 0 < a0.size := (by have : (0 : Int) < (a0.size : Int) := ofDec; omega)
  have hx4 : ∀ h : 0 < a0.size, ((a0[0]'h).toNat : Int) = bt a0 0 := bt_at a0 0
  clear p4
  have qi4 : (0 < (a0.size : Int)) = True := eq_true (ofDec)
  replace q4 := eq_true q4
  have p6 : 0 ≤ (0 : Int) := (by omega)
  have q6 : 0 < a0.size := (by have : (0 : Int) < (a0.size : Int) := ofDec; omega)
  have hx6 : ∀ h : 0 < a0.size, ((a0[0]'h).toNat : Int) = bt a0 0 := bt_at a0 0
  clear p6
  have qi6 : (0 < (a0.size : Int)) = True := eq_true (ofDec)
  replace q6 := eq_true q6
  have p8 : 0 ≤ (0 : Int) := (by omega)
  have q8 : 0 < a0.size := (by have : (0 : Int) < (a0.size : Int) := ofDec; omega)
  have hx8 : ∀ h : 0 < a0.size, ((a0[0]'h).toNat : Int) = bt a0 0 := bt_at a0 0
  clear p8
  have qi8 : (0 < (a0.size : Int)) = True := eq_true (ofDec)
  replace q8 := eq_true q8
  have p10 : 0 ≤ (0 : Int) := (by omega)
  have q10 : 0 < a0.size := (by have : (0 : Int) < (a0.size : Int) := ofDec; omega)
  have hx10 : ∀ h : 0 < a0.size, ((a0[0]'h).toNat : Int) = bt a0 0 := bt_at a0 0
  clear p10
  have qi10 : (0 < (a0.size : Int)) = True := eq_true (ofDec)
  replace q10 := eq_true q10
  have p12 : 0 ≤ (0 : Int) := (by omega)
  have q12 : 0 < a0.size := (by have : (0 : Int) < (a0.size : Int) := ofDec; omega)
  have hx12 : ∀ h : 0 < a0.size, ((a0[0]'h).toNat : Int) = bt a0 0 := bt_at a0 0
  clear p12
  have qi12 : (0 < (a0.size : Int)) = True := eq_true (ofDec)
  replace q12 := eq_true q12
  go_enter Tryd.func44, Tryd.ntmps44
  go_wp2
  go_ret
  exact ⟨eqFin, drawnNow⟩
 obtain rfl := Option.some.inj H
 have p4 : 0 ≤ (0 : Int) := (by omega)
 have q4 : 0 < a0.size := (by have : (0 : Int) < (a0.size : Int) := ofDec; omega)
 have hx4 : ∀ h : 0 < a0.size, ((a0[0]'h).toNat : Int) = bt a0 0 := bt_at a0 0
 clear p4
 have qi4 : (0 < (a0.size : Int)) = True := eq_true (ofDec)
 replace q4 := eq_true q4
 have p6 : 0 ≤ (0 : Int) := (by omega)
 have q6 : 0 < a0.size := (by have : (0 : Int) < (a0.size : Int) := ofDec; omega)
 have hx6 : ∀ h : 0 < a0.size, ((a0[0]'h).toNat : Int) = bt a0 0 := bt_at a0 0
 clear p6
 have qi6 : (0 < (a0.size : Int)) = True := eq_true (ofDec)
 replace q6 := eq_true q6
 have p8 : 0 ≤ (0 : Int) := (by omega)
 have q8 : 0 < a0.size := (by have : (0 : Int) < (a0.size : Int) := ofDec; omega)
 have hx8 : ∀ h : 0 < a0.size, ((a0[0]'h).toNat : Int) = bt a0 0 := bt_at a0 0
 clear p8
 have qi8 : (0 < (a0.size : Int)) = True := eq_true (ofDec)
 replace q8 := eq_true q8
 have p10 : 0 ≤ (0 : Int) := (by omega)
 have q10 : 0 < a0.size := (by have : (0 : Int) < (a0.size : Int) := ofDec; omega)
 have hx10 : ∀ h : 0 < a0.size, ((a0[0]'h).toNat : Int) = bt a0 0 := bt_at a0 0
 clear p10
 have qi10 : (0 < (a0.size : Int)) = True := eq_true (ofDec)
 replace q10 := eq_true q10
 have p12 : 0 ≤ (0 : Int) := (by omega)
 have q12 : 0 < a0.size := (by have : (0 : Int) < (a0.size : Int) := ofDec; omega)
 have hx12 : ∀ h : 0 < a0.size, ((a0[0]'h).toNat : Int) = bt a0 0 := bt_at a0 0
 clear p12
 have qi12 : (0 < (a0.size : Int)) = True := eq_true (ofDec)
 replace q12 := eq_true q12
 have p14 : 0 ≤ (0 : Int) := (by omega)
 have q14 : 0 < a0.size := (by have : (0 : Int) < (a0.size : Int) := ofDec; omega)
 have hx14 : ∀ h : 0 < a0.size, ((a0[0]'h).toNat : Int) = bt a0 0 := bt_at a0 0
 clear p14
 have qi14 : (0 < (a0.size : Int)) = True := eq_true (ofDec)
 replace q14 := eq_true q14
 go_enter Tryd.func44, Tryd.ntmps44
 go_wp2
 go_ret
 exact ⟨eqFin, drawnNow⟩
mutual
def hunks_Head.l0 : Nat → List ByteArray → Int → Option (ByteArray)
 | 0, _, _ => none
 | k + 1, x0, x5 => if x5 ≥ 0 then (if 0 ≤ x5 then (if x5 < (x0.length : Int) then ((hunks_begins.f (rdOf ByteArray.empty x0 x5)).bind fun t335 => (if t335 = true then ((lines_Bare.f (rdOf ByteArray.empty x0 x5)).bind fun t337 => ((strings_ReplaceAll.f t337 (⟨#[9]⟩ : ByteArray) (⟨#[32]⟩ : ByteArray)).bind fun t338 => (hunks_Head.l1 k t338 0))) else (hunks_Head.l0 k x0 (wrap64 (x5 - 1))))) else (none)) else (none)) else (some (⟨#[]⟩ : ByteArray))
def hunks_Head.l1 : Nat → ByteArray → Int → Option (ByteArray)
 | 0, _, _ => none
 | k + 1, x6, x7 => if x7 < (x6.size : Int) then (if x7 < 40 then (if 0 ≤ x7 then (if (bt x6 x7) ≥ 32 then (if (bt x6 x7) = 127 then (if x7 ≤ (x6.size : Int) then ((strings_TrimRight.f (x6.extract 0 (x7 : Int).toNat) (⟨#[32]⟩ : ByteArray)).bind fun t339 => (some t339)) else (none)) else (hunks_Head.l1 k x6 (wrap64 (x7 + 1)))) else (if x7 ≤ (x6.size : Int) then ((strings_TrimRight.f (x6.extract 0 (x7 : Int).toNat) (⟨#[32]⟩ : ByteArray)).bind fun t340 => (some t340)) else (none))) else (none)) else (if 0 ≤ x7 then (if x7 ≤ (x6.size : Int) then ((strings_TrimRight.f (x6.extract 0 (x7 : Int).toNat) (⟨#[32]⟩ : ByteArray)).bind fun t341 => (some t341)) else (none)) else (none))) else (if 0 ≤ x7 then (if x7 ≤ (x6.size : Int) then ((strings_TrimRight.f (x6.extract 0 (x7 : Int).toNat) (⟨#[32]⟩ : ByteArray)).bind fun t342 => (some t342)) else (none)) else (none))
end
def hunks_Head.f (k : Nat) (l0 : List ByteArray) (a1 : Int) : Option (ByteArray) := hunks_Head.l0 k l0 (wrap64 ((mn (mx a1 0) (l0.length : Int)) - 1))
theorem hunks_Head.mono_l : ∀ k, (∀ y0 y1, LeO (hunks_Head.l0 k y0 y1) (hunks_Head.l0 (k + 1) y0 y1)) ∧ (∀ y0 y1, LeO (hunks_Head.l1 k y0 y1) (hunks_Head.l1 (k + 1) y0 y1))
 | 0 => ⟨fun _ _ r h => by simp [hunks_Head.l0] at h, fun _ _ r h => by simp [hunks_Head.l1] at h⟩
 | k + 1 => by
  obtain ⟨ih0, ih1⟩ := hunks_Head.mono_l k
  refine ⟨?_, ?_⟩
  ·intro y0 y1
   unfold hunks_Head.l0
   repeat' first
   | (with_reducible exact ih0 _ _)
   | (with_reducible exact ih1 _ _)
   | (with_reducible exact LeO.refl _)
   | (with_reducible exact LeO.none _)
   | (with_reducible refine LeO.ite ?_ ?_)
   | (with_reducible refine LeO.bind ?_ (fun _ => ?_))
   | exact ih0 _ _
   | exact ih1 _ _
   | exact LeO.none _
   | refine LeO.ite ?_ ?_
   | refine LeO.bind ?_ (fun _ => ?_)
  ·intro y0 y1
   unfold hunks_Head.l1
   repeat' first
   | (with_reducible exact ih0 _ _)
   | (with_reducible exact ih1 _ _)
   | (with_reducible exact LeO.refl _)
   | (with_reducible exact LeO.none _)
   | (with_reducible refine LeO.ite ?_ ?_)
   | (with_reducible refine LeO.bind ?_ (fun _ => ?_))
   | exact ih0 _ _
   | exact ih1 _ _
   | exact LeO.none _
   | refine LeO.ite ?_ ?_
   | refine LeO.bind ?_ (fun _ => ?_)
theorem hunks_Head.mono : ∀ a0 a1 k, LeO (hunks_Head.f k a0 a1) (hunks_Head.f (k + 1) a0 a1) := by
 intro a0 a1 k
 obtain ⟨ih0, ih1⟩ := hunks_Head.mono_l k
 unfold hunks_Head.f
 repeat' first
   | (with_reducible exact ih0 _ _)
   | (with_reducible exact ih1 _ _)
   | (with_reducible exact LeO.refl _)
   | (with_reducible exact LeO.none _)
   | (with_reducible refine LeO.ite ?_ ?_)
   | (with_reducible refine LeO.bind ?_ (fun _ => ?_))
   | exact ih0 _ _
   | exact ih1 _ _
   | exact LeO.none _
   | refine LeO.ite ?_ ?_
   | refine LeO.bind ?_ (fun _ => ?_)
set_option maxHeartbeats 8000000 in
set_option maxRecDepth 100000 in
theorem hunks_Head.calls (k : Nat) (A0 : Option Addr) (c0 : Nat) (l0 : List ByteArray) (a1 : Int) (r : ByteArray) (w : World) (hr0 : Kd.C Kd.string w A0 l0.length l0) (hc0 : l0.length ≤ c0) (hGL : Glob w) (h : hunks_Head.f k l0 a1 = some r) :
  Calls Tryd.prog 26 #[.slice A0 l0.length c0, .int .i64 a1] w fun e w' => e = .returned (.string r) ∧ Below w.heap.size w w' := by
 have HR0 := Aside0.mk hr0
 have HC0 := Aside0.mk hc0
 clear hr0 hc0
 have HB := Aside0.mk (Below.refl w.heap.size w)
 have H := h
 clear h
 unfold hunks_Head.f at H
 obtain ⟨ji3, hji3⟩ : ∃ j_ : Int, (mx a1 0) = j_ := ⟨_, rfl⟩
 first | rw [hji3] at H | simp only [hji3] at H
 (try (have hji3l : 0 ≤ ji3 := by (rw [← hji3]; unfold mx; (repeat' split) <;> omega)))
 (try (have hji3m : 0 ≤ ji3 := by omega))
 have hji3_ : (if a1 < 0 then 0 else a1) = ji3 := hji3
 obtain ⟨ji4, hji4⟩ : ∃ j_ : Int, (mn (ji3) (l0.length : Int)) = j_ := ⟨_, rfl⟩
 first | rw [hji4] at H | simp only [hji4] at H
 have hji4_ : (if (l0.length : Int) < (ji3) then (l0.length : Int) else (ji3)) = ji4 := hji4
 have H' := Aside0.mk H
 clear H
 go_enter Tryd.func26, Tryd.ntmps26
 go_wp2
 go_loopg [5] k (fun kq v5 w' => ∃ (x5_1 : Int), v5 = .int .i64 x5_1 ∧ Aside0 (hunks_Head.l0 kq l0 x5_1 = some r) ∧ Aside0 (kq ≤ k) ∧ Aside0 (Below w.heap.size w w'))
 case atStart => exact ⟨(wrap64 ((ji4) - 1)), (by first | rfl | (simp; done) | (simp only [← hji4] <;> (first | rfl | simp)) | (simp [*]; done) | (simp [*] <;> rfl)), H', ⟨Nat.le_refl _⟩, ⟨belNow⟩⟩
 case round =>
  clear H'
  obtain ⟨x5_1, rfl, HA, HK1, HB⟩ := hrel
  cases gk with
  | zero => exact absurd HA.out (by simp [hunks_Head.l0])
  | succ k1 =>
   have H := HA.out
   clear HA
   simp only [hunks_Head.l0] at H
   replace H := itHn H
   rcases H with ⟨-, c5b0, H⟩ | ⟨-, c5b0, H⟩
   ·obtain rfl := Option.some.inj H
    go_wp2
    go_ret
    exact ⟨by first | rfl | (simp [errW_none, errW_some] <;> rfl) | (simp only [← hji3, ← hji4]; first | rfl | (simp [errW_none, errW_some] <;> rfl)) | (simp [*, errW_none, errW_some] <;> rfl) | (simp only [i64_w, i32_w, u8_w]; first | rfl | (simp [errW_none, errW_some] <;> rfl)) | (simp only [bne_nil, beq_nil]; first | rfl | (simp <;> rfl)), belNow⟩
   replace H := itLn H
   rcases H with ⟨_, _, H⟩ | ⟨-, c6b0, H⟩
   ·cases H
   replace H := itLn H
   rcases H with ⟨_, _, H⟩ | ⟨-, c7b0, H⟩
   ·cases H
   replace H := bdS H
   obtain ⟨t335, A8, H⟩ := H
   replace H := itBn H
   rcases H with ⟨rfl, H⟩ | ⟨rfl, H⟩
   ·have H' := Aside0.mk H
    clear H
    have p334 : 0 ≤ (x5_1 : Int) := ofDec
    have q334 : x5_1 < (l0.length : Int) := ofDec
    obtain ⟨ad334, e334, hx334_0⟩ := Kd.at_string HR0.out x5_1 p334 q334
    cases e334
    replace hx334_0 := cUp HB.out hx334_0
    replace p334 := eq_true p334
    replace q334 := eq_true q334
    go_wp2_with (first | ((with_reducible refine gate_callee (f := 44) rfl ?_); refine goL (some 22) Tryd.func44 #[.string (rdOf ByteArray.empty l0 x5_1)] ?_; (with_reducible refine (hunks_begins.calls (rdOf ByteArray.empty l0 x5_1) false _ A8.out).mono ?_); rintro e w' ⟨rfl, ⟨nd, rfl⟩⟩; refine ⟨_, rfl, ?_⟩))
    go_roundg k1
    case measure => have := HK1.out; omega
    case rel => exact ⟨(wrap64 (x5_1 - 1)), eqNow, H', ⟨by have := HK1.out; omega⟩, ⟨belNow⟩⟩
   replace H := bdS H
   obtain ⟨t337, A10, H⟩ := H
   replace H := bdS H
   obtain ⟨t338, A11, H⟩ := H
   have H' := Aside0.mk H
   clear H
   have p334 : 0 ≤ (x5_1 : Int) := ofDec
   have q334 : x5_1 < (l0.length : Int) := ofDec
   obtain ⟨ad334, e334, hx334_0⟩ := Kd.at_string HR0.out x5_1 p334 q334
   cases e334
   replace hx334_0 := cUp HB.out hx334_0
   replace p334 := eq_true p334
   replace q334 := eq_true q334
   go_wp2_with (first | ((with_reducible refine gate_callee (f := 44) rfl ?_); refine goL (some 22) Tryd.func44 #[.string (rdOf ByteArray.empty l0 x5_1)] ?_; (with_reducible refine (hunks_begins.calls (rdOf ByteArray.empty l0 x5_1) true _ A8.out).mono ?_); rintro e w' ⟨rfl, ⟨nd, rfl⟩⟩; refine ⟨_, rfl, ?_⟩; have p336 : 0 ≤ (x5_1 : Int) := ofDec; have q336 : x5_1 < (l0.length : Int) := ofDec; obtain ⟨ad336, e336, hx336_0⟩ := Kd.at_string HR0.out x5_1 p336 q336; obtain rfl : ad334 = ad336 := (by injection e336); replace hx336_0 := (HB.out.cell (World.block_lt_of_cell? w _ hx336_0)).trans hx336_0; replace p336 := eq_true p336; replace q336 := eq_true q336) | ((with_reducible refine gate_callee (f := 46) rfl ?_); refine goL (some 28) Tryd.func46 #[.string (rdOf ByteArray.empty l0 x5_1)] ?_; (with_reducible refine (lines_Bare.calls (rdOf ByteArray.empty l0 x5_1) t337 _ A10.out).mono ?_); rintro e w' ⟨rfl, ⟨nd, rfl⟩⟩; refine ⟨_, rfl, ?_⟩) | ((with_reducible refine gate_callee (f := 45) rfl ?_); refine goL (some 29) Tryd.func45 #[.string t337, .string (⟨#[9]⟩ : ByteArray), .string (⟨#[32]⟩ : ByteArray)] ?_; (with_reducible refine (strings_ReplaceAll.calls t337 (⟨#[9]⟩ : ByteArray) (⟨#[32]⟩ : ByteArray) t338 _ ?side1 A11.out).mono ?_); (case side1 => exact Glob.below hGL belNow); rintro e w12 ⟨rfl, hb⟩; refine ⟨_, rfl, ?_⟩; replace HB := hbD HB hb; clear hb))
   go_loopg [7] k1 (fun kq v7 w' => ∃ (x7_2 : Int), v7 = .int .i64 x7_2 ∧ Aside0 (hunks_Head.l1 kq t338 x7_2 = some r) ∧ Aside0 (kq ≤ k1) ∧ Aside0 (Below w.heap.size w w'))
   case atStart => exact ⟨(0), eqNow, H', ⟨Nat.le_refl _⟩, ⟨belNow⟩⟩
   case round =>
    clear H'
    try clear c5b0
    try clear c6b0
    try clear c7b0
    try clear hx334_0
    try clear hx336_0
    try clear p334
    try clear p336
    try clear q334
    try clear q336
    obtain ⟨x7_2, rfl, HA, HK2, HB⟩ := hrel
    cases gk with
    | zero => exact absurd HA.out (by simp [hunks_Head.l1])
    | succ k2 =>
     have H := HA.out
     clear HA
     simp only [hunks_Head.l1] at H
     replace H := itLn H
     rcases H with ⟨-, c13b0, H⟩ | ⟨-, c13b0, H⟩
     ·replace H := itLn H
      rcases H with ⟨_, _, H⟩ | ⟨c29, -, H⟩
      ·cases H
      have c29b0 := eq_true c29
      have c29b1 : decide (0 ≤ x7_2) = true := decide_eq_true c29
      clear c29
      replace H := itLn H
      rcases H with ⟨_, _, H⟩ | ⟨c30, -, H⟩
      ·cases H
      have c30b0 := eq_true c30
      have c30b1 : decide (x7_2 ≤ (t338.size : Int)) = true := decide_eq_true c30
      clear c30
      replace H := bdS H
      obtain ⟨t342, A31, H⟩ := H
      obtain rfl := Option.some.inj H
      go_wp2_with (first | ((with_reducible refine gate_callee (f := 47) rfl ?_); refine goL (some 55) Tryd.func47 #[.string (t338.extract 0 (x7_2 : Int).toNat), .string (⟨#[32]⟩ : ByteArray)] ?_; (with_reducible refine (strings_TrimRight.calls (t338.extract 0 (x7_2 : Int).toNat) (⟨#[32]⟩ : ByteArray) t342 _ A31.out).mono ?_); rintro e w' ⟨rfl, ⟨nd, rfl⟩⟩; refine ⟨_, rfl, ?_⟩))
      go_ret
      exact ⟨by first | rfl | (simp [errW_none, errW_some] <;> rfl) | (simp only [← hji3, ← hji4]; first | rfl | (simp [errW_none, errW_some] <;> rfl)) | (simp [*, errW_none, errW_some] <;> rfl) | (simp only [i64_w, i32_w, u8_w]; first | rfl | (simp [errW_none, errW_some] <;> rfl)) | (simp only [bne_nil, beq_nil]; first | rfl | (simp <;> rfl)), belNow⟩
     replace H := itLn H
     rcases H with ⟨-, c14b0, H⟩ | ⟨-, c14b0, H⟩
     ·replace H := itLn H
      rcases H with ⟨_, _, H⟩ | ⟨c26, -, H⟩
      ·cases H
      have c26b0 := eq_true c26
      have c26b1 : decide (0 ≤ x7_2) = true := decide_eq_true c26
      clear c26
      replace H := itLn H
      rcases H with ⟨_, _, H⟩ | ⟨c27, -, H⟩
      ·cases H
      have c27b0 := eq_true c27
      have c27b1 : decide (x7_2 ≤ (t338.size : Int)) = true := decide_eq_true c27
      clear c27
      replace H := bdS H
      obtain ⟨t341, A28, H⟩ := H
      obtain rfl := Option.some.inj H
      go_wp2_with (first | ((with_reducible refine gate_callee (f := 47) rfl ?_); refine goL (some 55) Tryd.func47 #[.string (t338.extract 0 (x7_2 : Int).toNat), .string (⟨#[32]⟩ : ByteArray)] ?_; (with_reducible refine (strings_TrimRight.calls (t338.extract 0 (x7_2 : Int).toNat) (⟨#[32]⟩ : ByteArray) t341 _ A28.out).mono ?_); rintro e w' ⟨rfl, ⟨nd, rfl⟩⟩; refine ⟨_, rfl, ?_⟩))
      go_ret
      exact ⟨by first | rfl | (simp [errW_none, errW_some] <;> rfl) | (simp only [← hji3, ← hji4]; first | rfl | (simp [errW_none, errW_some] <;> rfl)) | (simp [*, errW_none, errW_some] <;> rfl) | (simp only [i64_w, i32_w, u8_w]; first | rfl | (simp [errW_none, errW_some] <;> rfl)) | (simp only [bne_nil, beq_nil]; first | rfl | (simp <;> rfl)), belNow⟩
     replace H := itLn H
     rcases H with ⟨_, _, H⟩ | ⟨-, c15b0, H⟩
     ·cases H
     replace H := itHn H
     rcases H with ⟨-, c17b0, H⟩ | ⟨-, c17b0, H⟩
     ·have c23b0 := eq_true (ofDec : 0 ≤ x7_2)
      replace H := itLn H
      rcases H with ⟨_, _, H⟩ | ⟨c24, -, H⟩
      ·cases H
      have c24b0 := eq_true c24
      have c24b1 : decide (x7_2 ≤ (t338.size : Int)) = true := decide_eq_true c24
      clear c24
      replace H := bdS H
      obtain ⟨t340, A25, H⟩ := H
      obtain rfl := Option.some.inj H
      have p16 : 0 ≤ (x7_2 : Int) := ofDec
      have q16 : x7_2 < (t338.size : Int) := ofDec
      have hx16 := bt_at t338 x7_2
      replace p16 := eq_true p16
      replace q16 := eq_true q16
      go_wp2_with (first | ((with_reducible refine gate_callee (f := 47) rfl ?_); refine goL (some 55) Tryd.func47 #[.string (t338.extract 0 (x7_2 : Int).toNat), .string (⟨#[32]⟩ : ByteArray)] ?_; (with_reducible refine (strings_TrimRight.calls (t338.extract 0 (x7_2 : Int).toNat) (⟨#[32]⟩ : ByteArray) t340 _ A25.out).mono ?_); rintro e w' ⟨rfl, ⟨nd, rfl⟩⟩; refine ⟨_, rfl, ?_⟩))
      go_ret
      exact ⟨by first | rfl | (simp [errW_none, errW_some] <;> rfl) | (simp only [← hji3, ← hji4]; first | rfl | (simp [errW_none, errW_some] <;> rfl)) | (simp [*, errW_none, errW_some] <;> rfl) | (simp only [i64_w, i32_w, u8_w]; first | rfl | (simp [errW_none, errW_some] <;> rfl)) | (simp only [bne_nil, beq_nil]; first | rfl | (simp <;> rfl)), belNow⟩
     replace H := itEn H
     rcases H with ⟨c19, c19b0, c19b1, H⟩ | ⟨-, c19b0, c19b1, H⟩
     ·have H' := Aside0.mk H
      clear H
      have p16 : 0 ≤ (x7_2 : Int) := ofDec
      have q16 : x7_2 < (t338.size : Int) := ofDec
      have hx16 := bt_at t338 x7_2
      replace p16 := eq_true p16
      replace q16 := eq_true q16
      have p18 : 0 ≤ (x7_2 : Int) := ofDec
      have q18 : x7_2 < (t338.size : Int) := ofDec
      have hx18 := bt_at t338 x7_2
      replace p18 := eq_true p18
      replace q18 := eq_true q18
      go_wp2
      go_roundg k2
      case measure => have := HK1.out; have := HK2.out; omega
      case rel => exact ⟨(wrap64 (x7_2 + 1)), eqNow, H', ⟨by have := HK1.out; have := HK2.out; omega⟩, ⟨belNow⟩⟩
     have c20b0 := eq_true (ofDec : 0 ≤ x7_2)
     replace H := itLn H
     rcases H with ⟨_, _, H⟩ | ⟨c21, -, H⟩
     ·cases H
     have c21b0 := eq_true c21
     have c21b1 : decide (x7_2 ≤ (t338.size : Int)) = true := decide_eq_true c21
     clear c21
     replace H := bdS H
     obtain ⟨t339, A22, H⟩ := H
     obtain rfl := Option.some.inj H
     have p16 : 0 ≤ (x7_2 : Int) := ofDec
     have q16 : x7_2 < (t338.size : Int) := ofDec
     have hx16 := bt_at t338 x7_2
     replace p16 := eq_true p16
     replace q16 := eq_true q16
     have p18 : 0 ≤ (x7_2 : Int) := ofDec
     have q18 : x7_2 < (t338.size : Int) := ofDec
     have hx18 := bt_at t338 x7_2
     replace p18 := eq_true p18
     replace q18 := eq_true q18
     go_wp2_with (first | ((with_reducible refine gate_callee (f := 47) rfl ?_); refine goL (some 55) Tryd.func47 #[.string (t338.extract 0 (x7_2 : Int).toNat), .string (⟨#[32]⟩ : ByteArray)] ?_; (with_reducible refine (strings_TrimRight.calls (t338.extract 0 (x7_2 : Int).toNat) (⟨#[32]⟩ : ByteArray) t339 _ A22.out).mono ?_); rintro e w' ⟨rfl, ⟨nd, rfl⟩⟩; refine ⟨_, rfl, ?_⟩))
     go_ret
     exact ⟨by first | rfl | (simp [errW_none, errW_some] <;> rfl) | (simp only [← hji3, ← hji4]; first | rfl | (simp [errW_none, errW_some] <;> rfl)) | (simp [*, errW_none, errW_some] <;> rfl) | (simp only [i64_w, i32_w, u8_w]; first | rfl | (simp [errW_none, errW_some] <;> rfl)) | (simp only [bne_nil, beq_nil]; first | rfl | (simp <;> rfl)), belNow⟩
end Go.Proofs.YtecjoofjiockkaaDoor.Pp
