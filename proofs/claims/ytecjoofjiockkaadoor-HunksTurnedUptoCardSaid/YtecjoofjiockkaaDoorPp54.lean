import Derived.Test.YtecjoofjiockkaaDoorESt
import Derived.Test.YtecjoofjiockkaaDoorPp0
import Derived.Test.YtecjoofjiockkaaDoorPp2
import Derived.Test.YtecjoofjiockkaaDoorPp3
import Derived.Test.YtecjoofjiockkaaDoorPp4
import Derived.Test.YtecjoofjiockkaaDoorPp7
import Derived.Test.YtecjoofjiockkaaDoorPp8
import Derived.Test.YtecjoofjiockkaaDoorPp10
import Derived.Test.YtecjoofjiockkaaDoorPp11
import Derived.Test.YtecjoofjiockkaaDoorPp12
import Derived.Test.YtecjoofjiockkaaDoorPp13
import Derived.Test.YtecjoofjiockkaaDoorPp14
import Derived.Test.YtecjoofjiockkaaDoorPp15
import Derived.Test.YtecjoofjiockkaaDoorPp16
import Derived.Test.YtecjoofjiockkaaDoorPp17
import Derived.Test.YtecjoofjiockkaaDoorPp18
import Derived.Test.YtecjoofjiockkaaDoorPp19
import Derived.Test.YtecjoofjiockkaaDoorPp21
import Derived.Test.YtecjoofjiockkaaDoorPp26
namespace Go.Proofs.YtecjoofjiockkaaDoor.Pp
open Go.RowKit Go.Proofs.YtecjoofjiockkaaDoor.Ext Go.Proofs.YtecjoofjiockkaaDoorW.PrintWords Go.Proofs.YtecjoofjiockkaaDoorW.PrintLast Go.Proofs.YtecjoofjiockkaaDoorW.PrintMore
attribute [local go_sem] max2_int min2_int max_two min_two max_three min_three max_four min_four   -- for this text's walks alone
set_option linter.unusedVariables false
set_option linter.unusedSimpArgs false
mutual
def selvageref01_Valid.l0 : Nat → List ByteArray → Int → Option (Bool)
 | 0, _, _ => none
 | k + 1, x0, x3 => if x3 < (x0.length : Int) then (if 0 ≤ x3 then (selvageref01_Valid.l1 k x0 x3 ((rdOf ByteArray.empty x0 x3).size : Int) 0) else (none)) else (some true)
def selvageref01_Valid.l1 : Nat → List ByteArray → Int → Int → Int → Option (Bool)
 | 0, _, _, _, _ => none
 | k + 1, x0, x3, x4, x5 => if x5 < (wrap64 (x4 - 1)) then (if 0 ≤ x3 then (if x3 < (x0.length : Int) then (if 0 ≤ x5 then (if x5 < ((rdOf ByteArray.empty x0 x3).size : Int) then (if (bt (rdOf ByteArray.empty x0 x3) x5) = 10 then (some false) else (selvageref01_Valid.l1 k x0 x3 x4 (wrap64 (x5 + 1)))) else (none)) else (none)) else (none)) else (none)) else (if x4 = 0 then (some false) else (if x3 < (wrap64 ((x0.length : Int) - 1)) then (if 0 ≤ x3 then (if x3 < (x0.length : Int) then (if 0 ≤ (wrap64 (x4 - 1)) then (if (wrap64 (x4 - 1)) < ((rdOf ByteArray.empty x0 x3).size : Int) then (if (bt (rdOf ByteArray.empty x0 x3) (wrap64 (x4 - 1))) = 10 then (selvageref01_Valid.l0 k x0 (wrap64 (x3 + 1))) else (some false)) else (none)) else (none)) else (none)) else (none)) else (selvageref01_Valid.l0 k x0 (wrap64 (x3 + 1)))))
end
def selvageref01_Valid.f (k : Nat) (l0 : List ByteArray) : Option (Bool) := selvageref01_Valid.l0 k l0 0
set_option maxHeartbeats 8000000 in
set_option maxRecDepth 100000 in
theorem selvageref01_Valid.calls (k : Nat) (A0 : Option Addr) (c0 : Nat) (l0 : List ByteArray) (r : Bool) (w : World) (hr0 : Kd.C Kd.string w A0 l0.length l0) (hc0 : l0.length ≤ c0) (h : selvageref01_Valid.f k l0 = some r) :
  Calls Tryd.prog 14 #[.slice A0 l0.length c0] w fun e w' => e = .returned (.bool r) ∧ Drawn0 w w' := by
 have HR0 := Aside0.mk hr0
 have HC0 := Aside0.mk hc0
 clear hr0 hc0
 have H := h
 clear h
 unfold selvageref01_Valid.f at H
 have H' := Aside0.mk H
 clear H
 go_enter Tryd.func14, Tryd.ntmps14
 go_wp2
 go_loopg [3] k (fun kq v3 w' => ∃ (x3_1 : Int), v3 = .int .i64 x3_1 ∧ Aside0 (selvageref01_Valid.l0 kq l0 x3_1 = some r) ∧ Aside0 (kq ≤ k) ∧ Drawn0 w w')
 case atStart => exact ⟨(0), eqNow, H', ⟨Nat.le_refl _⟩, drawnNow⟩
 case round =>
  clear H'
  obtain ⟨x3_1, rfl, HA, HK1, ⟨m1, rfl⟩⟩ := hrel
  cases gk with
  | zero => exact absurd HA.out (by simp [selvageref01_Valid.l0])
  | succ k1 =>
   have H := HA.out
   clear HA
   simp only [selvageref01_Valid.l0] at H
   replace H := itLn H
   rcases H with ⟨-, c2b0, H⟩ | ⟨-, c2b0, H⟩
   ·obtain rfl := Option.some.inj H
    go_wp2
    go_ret
    exact ⟨eqFin, drawnNow⟩
   replace H := itLn H
   rcases H with ⟨_, _, H⟩ | ⟨-, c3b0, H⟩
   ·cases H
   have H' := Aside0.mk H
   clear H
   have p415 : 0 ≤ (x3_1 : Int) := ofDec
   have q415 : x3_1 < (l0.length : Int) := ofDec
   obtain ⟨ad415, e415, hx415_0⟩ := Kd.at_string HR0.out x3_1 p415 q415
   cases e415
   replace p415 := eq_true p415
   replace q415 := eq_true q415
   go_wp2
   go_loopg [5] k1 (fun kq v5 w' => ∃ (x5_2 : Int), v5 = .int .i64 x5_2 ∧ Aside0 (selvageref01_Valid.l1 kq l0 x3_1 ((rdOf ByteArray.empty l0 x3_1).size : Int) x5_2 = some r) ∧ Aside0 (kq ≤ k1) ∧ Drawn0 w w')
   case atStart => exact ⟨(0), eqNow, H', ⟨Nat.le_refl _⟩, drawnNow⟩
   case round =>
    clear H'
    try clear c2
    try clear c2b0
    try clear c3
    try clear c3b0
    try clear hx415_0
    try clear p415
    try clear q415
    obtain ⟨x5_2, rfl, HA, HK2, ⟨m2, rfl⟩⟩ := hrel
    cases gk with
    | zero => exact absurd HA.out (by simp [selvageref01_Valid.l1])
    | succ k2 =>
     have H := HA.out
     clear HA
     simp only [selvageref01_Valid.l1] at H
     replace H := itL H
     rcases H with ⟨-, c4b0, H⟩ | ⟨-, c4b0, H⟩
     ·replace H := itLn H
      rcases H with ⟨_, _, H⟩ | ⟨-, c5b0, H⟩
      ·cases H
      replace H := itLn H
      rcases H with ⟨_, _, H⟩ | ⟨-, c6b0, H⟩
      ·cases H
      replace H := itLn H
      rcases H with ⟨_, _, H⟩ | ⟨-, c7b0, H⟩
      ·cases H
      replace H := itLn H
      rcases H with ⟨_, _, H⟩ | ⟨-, c8b0, H⟩
      ·cases H
      replace H := itE H
      rcases H with ⟨-, c10b0, c10b1, H⟩ | ⟨c10, c10b0, c10b1, H⟩
      ·obtain rfl := Option.some.inj H
       have p416 : 0 ≤ (x3_1 : Int) := ofDec
       have q416 : x3_1 < (l0.length : Int) := ofDec
       obtain ⟨ad416, e416, hx416_0⟩ := Kd.at_string HR0.out x3_1 p416 q416
       obtain rfl : ad415 = ad416 := (by injection e416)
       replace p416 := eq_true p416
       replace q416 := eq_true q416
       have p9 : 0 ≤ (x5_2 : Int) := ofDec
       have q9 : x5_2 < ((rdOf ByteArray.empty l0 x3_1).size : Int) := ofDec
       have hx9 := bt_at (rdOf ByteArray.empty l0 x3_1) x5_2
       replace p9 := eq_true p9
       replace q9 := eq_true q9
       go_wp2
       go_ret
       exact ⟨eqFin, drawnNow⟩
      have H' := Aside0.mk H
      clear H
      have p416 : 0 ≤ (x3_1 : Int) := ofDec
      have q416 : x3_1 < (l0.length : Int) := ofDec
      obtain ⟨ad416, e416, hx416_0⟩ := Kd.at_string HR0.out x3_1 p416 q416
      obtain rfl : ad415 = ad416 := (by injection e416)
      replace p416 := eq_true p416
      replace q416 := eq_true q416
      have p9 : 0 ≤ (x5_2 : Int) := ofDec
      have q9 : x5_2 < ((rdOf ByteArray.empty l0 x3_1).size : Int) := ofDec
      have hx9 := bt_at (rdOf ByteArray.empty l0 x3_1) x5_2
      replace p9 := eq_true p9
      replace q9 := eq_true q9
      go_wp2
      go_roundg k2
      case measure => have := HK1.out; have := HK2.out; omega
      case rel => exact ⟨(wrap64 (x5_2 + 1)), eqNow, H', ⟨by have := HK1.out; have := HK2.out; omega⟩, drawnNow⟩
     replace H := itE H
     rcases H with ⟨-, c11b0, c11b1, H⟩ | ⟨c11, c11b0, c11b1, H⟩
     ·obtain rfl := Option.some.inj H
      go_wp2
      go_ret
      exact ⟨eqFin, drawnNow⟩
     replace H := itLn H
     rcases H with ⟨-, c12b0, H⟩ | ⟨-, c12b0, H⟩
     ·have H' := Aside0.mk H
      clear H
      go_wp2
      go_roundg k2
      case measure => have := HK1.out; have := HK2.out; omega
      case rel => exact ⟨(wrap64 (x3_1 + 1)), eqNow, H', ⟨by have := HK1.out; have := HK2.out; omega⟩, drawnNow⟩
     replace H := itLn H
     rcases H with ⟨_, _, H⟩ | ⟨-, c13b0, H⟩
     ·cases H
     replace H := itLn H
     rcases H with ⟨_, _, H⟩ | ⟨-, c14b0, H⟩
     ·cases H
     obtain ⟨ji15, hji15⟩ : ∃ j_ : Int, (wrap64 (((rdOf ByteArray.empty l0 x3_1).size : Int) - 1)) = j_ := ⟨_, rfl⟩
     first | rw [hji15] at H | simp only [hji15] at H
     (try rw [hji15] at c4b0)
     have hji15w : (IntKind.i64.wrap (((rdOf ByteArray.empty l0 x3_1).size : Int) - 1)) = ji15 := (i64_w _).trans hji15
     replace H := itLn H
     rcases H with ⟨_, _, H⟩ | ⟨-, c16b0, H⟩
     ·cases H
     replace H := itLn H
     rcases H with ⟨_, _, H⟩ | ⟨-, c17b0, H⟩
     ·cases H
     replace H := itE H
     rcases H with ⟨-, c19b0, c19b1, H⟩ | ⟨c19, c19b0, c19b1, H⟩
     ·have H' := Aside0.mk H
      clear H
      have p417 : 0 ≤ (x3_1 : Int) := ofDec
      have q417 : x3_1 < (l0.length : Int) := ofDec
      obtain ⟨ad417, e417, hx417_0⟩ := Kd.at_string HR0.out x3_1 p417 q417
      obtain rfl : ad415 = ad417 := (by injection e417)
      replace p417 := eq_true p417
      replace q417 := eq_true q417
      have p18 : 0 ≤ ((ji15) : Int) := ofDec
      have q18 : (ji15) < ((rdOf ByteArray.empty l0 x3_1).size : Int) := ofDec
      have hx18 := bt_at (rdOf ByteArray.empty l0 x3_1) (ji15)
      replace p18 := eq_true p18
      replace q18 := eq_true q18
      go_wp2
      go_roundg k2
      case measure => have := HK1.out; have := HK2.out; omega
      case rel => exact ⟨(wrap64 (x3_1 + 1)), eqNow, H', ⟨by have := HK1.out; have := HK2.out; omega⟩, drawnNow⟩
     obtain rfl := Option.some.inj H
     have p417 : 0 ≤ (x3_1 : Int) := ofDec
     have q417 : x3_1 < (l0.length : Int) := ofDec
     obtain ⟨ad417, e417, hx417_0⟩ := Kd.at_string HR0.out x3_1 p417 q417
     obtain rfl : ad415 = ad417 := (by injection e417)
     replace p417 := eq_true p417
     replace q417 := eq_true q417
     have p18 : 0 ≤ ((ji15) : Int) := ofDec
     have q18 : (ji15) < ((rdOf ByteArray.empty l0 x3_1).size : Int) := ofDec
     have hx18 := bt_at (rdOf ByteArray.empty l0 x3_1) (ji15)
     replace p18 := eq_true p18
     replace q18 := eq_true q18
     go_wp2
     go_ret
     exact ⟨by first | rfl | (simp; done) | (simp only [← hji15] <;> (first | rfl | simp)) | (simp [*]; done) | (simp [*] <;> rfl) | (simp only [i64_w, i32_w, u8_w]; first | rfl | (simp [errW_none, errW_some] <;> rfl)) | (simp only [bne_nil, beq_nil]; first | rfl | (simp <;> rfl)), drawnNow⟩
end Go.Proofs.YtecjoofjiockkaaDoor.Pp
