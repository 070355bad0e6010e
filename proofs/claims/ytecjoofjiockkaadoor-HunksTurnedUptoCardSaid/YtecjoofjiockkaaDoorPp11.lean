import Derived.Test.YtecjoofjiockkaaDoorESt
import Derived.Test.YtecjoofjiockkaaDoorPp0
import Derived.Test.YtecjoofjiockkaaDoorPp10
namespace Go.Proofs.YtecjoofjiockkaaDoor.Pp
open Go.RowKit Go.Proofs.YtecjoofjiockkaaDoor.Ext Go.Proofs.YtecjoofjiockkaaDoorW.PrintWords Go.Proofs.YtecjoofjiockkaaDoorW.PrintLast Go.Proofs.YtecjoofjiockkaaDoorW.PrintMore
attribute [local go_sem] max2_int min2_int max_two min_two max_three min_three max_four min_four   -- for this text's walks alone
set_option linter.unusedVariables false
set_option linter.unusedSimpArgs false
def lines_Valid.l0 : Nat → List ByteArray → List ByteArray → Int → Int → Option (Bool)
 | 0, _, _, _, _ => none
 | k + 1, x0, x6, x7, x8 => if x8 < x7 then (if 0 ≤ x8 then (if x8 < (x6.length : Int) then ((strings_IndexByte.f (rdOf ByteArray.empty x6 x8) 10).bind fun t234 => (if (rdOf ByteArray.empty x6 x8).toList = ([] : List UInt8) then (some false) else (if t234 ≥ 0 then (if t234 < (wrap64 (((rdOf ByteArray.empty x6 x8).size : Int) - 1)) then (some false) else (if t234 < 0 then (if x8 < (wrap64 ((x0.length : Int) - 1)) then (some false) else (lines_Valid.l0 k x0 x6 x7 (wrap64 (x8 + 1)))) else (lines_Valid.l0 k x0 x6 x7 (wrap64 (x8 + 1))))) else (if t234 < 0 then (if x8 < (wrap64 ((x0.length : Int) - 1)) then (some false) else (lines_Valid.l0 k x0 x6 x7 (wrap64 (x8 + 1)))) else (lines_Valid.l0 k x0 x6 x7 (wrap64 (x8 + 1))))))) else (none)) else (none)) else (some true)
def lines_Valid.f (k : Nat) (l0 : List ByteArray) : Option (Bool) := lines_Valid.l0 k l0 l0 (l0.length : Int) 0
theorem lines_Valid.mono_l : ∀ k, (∀ y0 y1 y2 y3, LeO (lines_Valid.l0 k y0 y1 y2 y3) (lines_Valid.l0 (k + 1) y0 y1 y2 y3))
 | 0 => fun _ _ _ _ r h => by simp [lines_Valid.l0] at h
 | k + 1 => by
  have ih0 := lines_Valid.mono_l k
  ·intro y0 y1 y2 y3
   unfold lines_Valid.l0
   repeat' first
   | (with_reducible exact ih0 _ _ _ _)
   | (with_reducible exact LeO.refl _)
   | (with_reducible exact LeO.none _)
   | (with_reducible refine LeO.ite ?_ ?_)
   | (with_reducible refine LeO.bind ?_ (fun _ => ?_))
   | exact ih0 _ _ _ _
   | exact LeO.none _
   | refine LeO.ite ?_ ?_
   | refine LeO.bind ?_ (fun _ => ?_)
theorem lines_Valid.mono : ∀ a0 k, LeO (lines_Valid.f k a0) (lines_Valid.f (k + 1) a0) := by
 intro a0 k
 have ih0 := lines_Valid.mono_l k
 unfold lines_Valid.f
 repeat' first
   | (with_reducible exact ih0 _ _ _ _)
   | (with_reducible exact LeO.refl _)
   | (with_reducible exact LeO.none _)
   | (with_reducible refine LeO.ite ?_ ?_)
   | (with_reducible refine LeO.bind ?_ (fun _ => ?_))
   | exact ih0 _ _ _ _
   | exact LeO.none _
   | refine LeO.ite ?_ ?_
   | refine LeO.bind ?_ (fun _ => ?_)
set_option maxHeartbeats 8000000 in
set_option maxRecDepth 100000 in
theorem lines_Valid.calls (k : Nat) (A0 : Option Addr) (c0 : Nat) (l0 : List ByteArray) (r : Bool) (w : World) (hr0 : Kd.C Kd.string w A0 l0.length l0) (hc0 : l0.length ≤ c0) (h : lines_Valid.f k l0 = some r) :
  Calls Tryd.prog 20 #[.slice A0 l0.length c0] w fun e w' => e = .returned (.bool r) ∧ Drawn0 w w' := by
 have HR0 := Aside0.mk hr0
 have HC0 := Aside0.mk hc0
 clear hr0 hc0
 have H := h
 clear h
 unfold lines_Valid.f at H
 have H' := Aside0.mk H
 clear H
 go_enter Tryd.func20, Tryd.ntmps20
 go_wp2
 go_loopg [8] k (fun kq v8 w' => ∃ (x8_1 : Int), v8 = .int .i64 x8_1 ∧ Aside0 (lines_Valid.l0 kq l0 l0 (l0.length : Int) x8_1 = some r) ∧ Aside0 (kq ≤ k) ∧ Drawn0 w w')
 case atStart => exact ⟨(0), eqNow, H', ⟨Nat.le_refl _⟩, drawnNow⟩
 case round =>
  clear H'
  obtain ⟨x8_1, rfl, HA, HK1, ⟨m1, rfl⟩⟩ := hrel
  cases gk with
  | zero => exact absurd HA.out (by simp [lines_Valid.l0])
  | succ k1 =>
   have H := HA.out
   clear HA
   simp only [lines_Valid.l0] at H
   replace H := itLn H
   rcases H with ⟨-, c2b0, H⟩ | ⟨-, c2b0, H⟩
   ·obtain rfl := Option.some.inj H
    go_wp2
    go_ret
    exact ⟨eqFin, drawnNow⟩
   replace H := itLn H
   rcases H with ⟨_, _, H⟩ | ⟨-, c3b0, H⟩
   ·cases H
   replace H := itLn H
   rcases H with ⟨_, _, H⟩ | ⟨-, c4b0, H⟩
   ·cases H
   replace H := bdS H
   obtain ⟨t234, A5, H⟩ := H
   replace H := itE H
   rcases H with ⟨-, c6b0, c6b1, H⟩ | ⟨c6, c6b0, c6b1, H⟩
   ·obtain rfl := Option.some.inj H
    have p233 : 0 ≤ (x8_1 : Int) := ofDec
    have q233 : x8_1 < (l0.length : Int) := ofDec
    obtain ⟨ad233, e233, hx233_0⟩ := Kd.at_string HR0.out x8_1 p233 q233
    cases e233
    replace p233 := eq_true p233
    replace q233 := eq_true q233
    go_wp2_with (first | ((with_reducible refine gate_callee (f := 36) rfl ?_); refine goL (some 14) Tryd.func36 #[.string (rdOf ByteArray.empty l0 x8_1), .int .u8 10] ?_; (with_reducible refine (strings_IndexByte.calls (rdOf ByteArray.empty l0 x8_1) 10 t234 _ A5.out).mono ?_); rintro e w' ⟨rfl, ⟨nd, rfl⟩⟩; refine ⟨_, rfl, ?_⟩))
    go_ret
    exact ⟨eqFin, drawnNow⟩
   replace H := itHn H
   rcases H with ⟨-, c7b0, H⟩ | ⟨-, c7b0, H⟩
   ·replace H := itLn H
    rcases H with ⟨-, c11b0, H⟩ | ⟨-, c11b0, H⟩
    ·have H' := Aside0.mk H
     clear H
     have p233 : 0 ≤ (x8_1 : Int) := ofDec
     have q233 : x8_1 < (l0.length : Int) := ofDec
     obtain ⟨ad233, e233, hx233_0⟩ := Kd.at_string HR0.out x8_1 p233 q233
     cases e233
     replace p233 := eq_true p233
     replace q233 := eq_true q233
     go_wp2_with (first | ((with_reducible refine gate_callee (f := 36) rfl ?_); refine goL (some 14) Tryd.func36 #[.string (rdOf ByteArray.empty l0 x8_1), .int .u8 10] ?_; (with_reducible refine (strings_IndexByte.calls (rdOf ByteArray.empty l0 x8_1) 10 t234 _ A5.out).mono ?_); rintro e w' ⟨rfl, ⟨nd, rfl⟩⟩; refine ⟨_, rfl, ?_⟩))
     go_roundg k1
     case measure => have := HK1.out; omega
     case rel => exact ⟨(wrap64 (x8_1 + 1)), eqNow, H', ⟨by have := HK1.out; omega⟩, drawnNow⟩
    replace H := itL H
    rcases H with ⟨-, c12b0, H⟩ | ⟨-, c12b0, H⟩
    ·obtain rfl := Option.some.inj H
     have p233 : 0 ≤ (x8_1 : Int) := ofDec
     have q233 : x8_1 < (l0.length : Int) := ofDec
     obtain ⟨ad233, e233, hx233_0⟩ := Kd.at_string HR0.out x8_1 p233 q233
     cases e233
     replace p233 := eq_true p233
     replace q233 := eq_true q233
     go_wp2_with (first | ((with_reducible refine gate_callee (f := 36) rfl ?_); refine goL (some 14) Tryd.func36 #[.string (rdOf ByteArray.empty l0 x8_1), .int .u8 10] ?_; (with_reducible refine (strings_IndexByte.calls (rdOf ByteArray.empty l0 x8_1) 10 t234 _ A5.out).mono ?_); rintro e w' ⟨rfl, ⟨nd, rfl⟩⟩; refine ⟨_, rfl, ?_⟩))
     go_ret
     exact ⟨eqFin, drawnNow⟩
    have H' := Aside0.mk H
    clear H
    have p233 : 0 ≤ (x8_1 : Int) := ofDec
    have q233 : x8_1 < (l0.length : Int) := ofDec
    obtain ⟨ad233, e233, hx233_0⟩ := Kd.at_string HR0.out x8_1 p233 q233
    cases e233
    replace p233 := eq_true p233
    replace q233 := eq_true q233
    go_wp2_with (first | ((with_reducible refine gate_callee (f := 36) rfl ?_); refine goL (some 14) Tryd.func36 #[.string (rdOf ByteArray.empty l0 x8_1), .int .u8 10] ?_; (with_reducible refine (strings_IndexByte.calls (rdOf ByteArray.empty l0 x8_1) 10 t234 _ A5.out).mono ?_); rintro e w' ⟨rfl, ⟨nd, rfl⟩⟩; refine ⟨_, rfl, ?_⟩))
    go_roundg k1
    case measure => have := HK1.out; omega
    case rel => exact ⟨(wrap64 (x8_1 + 1)), eqNow, H', ⟨by have := HK1.out; omega⟩, drawnNow⟩
   replace H := itL H
   rcases H with ⟨-, c8b0, H⟩ | ⟨-, c8b0, H⟩
   ·obtain rfl := Option.some.inj H
    have p233 : 0 ≤ (x8_1 : Int) := ofDec
    have q233 : x8_1 < (l0.length : Int) := ofDec
    obtain ⟨ad233, e233, hx233_0⟩ := Kd.at_string HR0.out x8_1 p233 q233
    cases e233
    replace p233 := eq_true p233
    replace q233 := eq_true q233
    go_wp2_with (first | ((with_reducible refine gate_callee (f := 36) rfl ?_); refine goL (some 14) Tryd.func36 #[.string (rdOf ByteArray.empty l0 x8_1), .int .u8 10] ?_; (with_reducible refine (strings_IndexByte.calls (rdOf ByteArray.empty l0 x8_1) 10 t234 _ A5.out).mono ?_); rintro e w' ⟨rfl, ⟨nd, rfl⟩⟩; refine ⟨_, rfl, ?_⟩))
    go_ret
    exact ⟨eqFin, drawnNow⟩
   replace H := itLn H
   rcases H with ⟨-, c9b0, H⟩ | ⟨-, c9b0, H⟩
   ·have H' := Aside0.mk H
    clear H
    have p233 : 0 ≤ (x8_1 : Int) := ofDec
    have q233 : x8_1 < (l0.length : Int) := ofDec
    obtain ⟨ad233, e233, hx233_0⟩ := Kd.at_string HR0.out x8_1 p233 q233
    cases e233
    replace p233 := eq_true p233
    replace q233 := eq_true q233
    go_wp2_with (first | ((with_reducible refine gate_callee (f := 36) rfl ?_); refine goL (some 14) Tryd.func36 #[.string (rdOf ByteArray.empty l0 x8_1), .int .u8 10] ?_; (with_reducible refine (strings_IndexByte.calls (rdOf ByteArray.empty l0 x8_1) 10 t234 _ A5.out).mono ?_); rintro e w' ⟨rfl, ⟨nd, rfl⟩⟩; refine ⟨_, rfl, ?_⟩))
    go_roundg k1
    case measure => have := HK1.out; omega
    case rel => exact ⟨(wrap64 (x8_1 + 1)), eqNow, H', ⟨by have := HK1.out; omega⟩, drawnNow⟩
   replace H := itL H
   rcases H with ⟨-, c10b0, H⟩ | ⟨-, c10b0, H⟩
   ·obtain rfl := Option.some.inj H
    have p233 : 0 ≤ (x8_1 : Int) := ofDec
    have q233 : x8_1 < (l0.length : Int) := ofDec
    obtain ⟨ad233, e233, hx233_0⟩ := Kd.at_string HR0.out x8_1 p233 q233
    cases e233
    replace p233 := eq_true p233
    replace q233 := eq_true q233
    go_wp2_with (first | ((with_reducible refine gate_callee (f := 36) rfl ?_); refine goL (some 14) Tryd.func36 #[.string (rdOf ByteArray.empty l0 x8_1), .int .u8 10] ?_; (with_reducible refine (strings_IndexByte.calls (rdOf ByteArray.empty l0 x8_1) 10 t234 _ A5.out).mono ?_); rintro e w' ⟨rfl, ⟨nd, rfl⟩⟩; refine ⟨_, rfl, ?_⟩))
    go_ret
    exact ⟨eqFin, drawnNow⟩
   have H' := Aside0.mk H
   clear H
   have p233 : 0 ≤ (x8_1 : Int) := ofDec
   have q233 : x8_1 < (l0.length : Int) := ofDec
   obtain ⟨ad233, e233, hx233_0⟩ := Kd.at_string HR0.out x8_1 p233 q233
   cases e233
   replace p233 := eq_true p233
   replace q233 := eq_true q233
   go_wp2_with (first | ((with_reducible refine gate_callee (f := 36) rfl ?_); refine goL (some 14) Tryd.func36 #[.string (rdOf ByteArray.empty l0 x8_1), .int .u8 10] ?_; (with_reducible refine (strings_IndexByte.calls (rdOf ByteArray.empty l0 x8_1) 10 t234 _ A5.out).mono ?_); rintro e w' ⟨rfl, ⟨nd, rfl⟩⟩; refine ⟨_, rfl, ?_⟩))
   go_roundg k1
   case measure => have := HK1.out; omega
   case rel => exact ⟨(wrap64 (x8_1 + 1)), eqNow, H', ⟨by have := HK1.out; omega⟩, drawnNow⟩
end Go.Proofs.YtecjoofjiockkaaDoor.Pp
