import Derived.Test.YtkoagpnoaibdjaaESt
import Derived.Test.YtkoagpnoaibdjaaPp0
namespace Go.Proofs.Ytkoagpnoaibdjaa.Pp
open Go.RowKit Go.Proofs.Ytkoagpnoaibdjaa.Ext Go.Proofs.YtkoagpnoaibdjaaW.PrintWords Go.Proofs.YtkoagpnoaibdjaaW.PrintLast Go.Proofs.YtkoagpnoaibdjaaW.PrintMore
attribute [local go_sem] max2_int min2_int max_two min_two max_three min_three max_four min_four   -- for this text's walks alone
set_option linter.unusedVariables false
set_option linter.unusedSimpArgs false
def selvagelaw17_same.l0 : Nat → List ByteArray → List ByteArray → Int → Option (Bool)
 | 0, _, _, _ => none
 | k + 1, x0, x1, x5 => if x5 < (x0.length : Int) then (if 0 ≤ x5 then (if x5 < (x1.length : Int) then (if (rdOf ByteArray.empty x0 x5).toList = (rdOf ByteArray.empty x1 x5).toList then (selvagelaw17_same.l0 k x0 x1 (wrap64 (x5 + 1))) else (none)) else (none)) else (none)) else (some true)
def selvagelaw17_same.f (k : Nat) (l0 : List ByteArray) (l1 : List ByteArray) : Option (Bool) := if (l0.length : Int) = (l1.length : Int) then (selvagelaw17_same.l0 k l0 l1 0) else (none)
set_option maxHeartbeats 8000000 in
set_option maxRecDepth 100000 in
theorem selvagelaw17_same.calls (k : Nat) (A0 : Option Addr) (c0 : Nat) (l0 : List ByteArray) (A1 : Option Addr) (c1 : Nat) (l1 : List ByteArray) (r : Bool) (w : World) (hr0 : Kd.C Kd.string w A0 l0.length l0) (hc0 : l0.length ≤ c0) (hr1 : Kd.C Kd.string w A1 l1.length l1) (hc1 : l1.length ≤ c1) (h : selvagelaw17_same.f k l0 l1 = some r) :
  Calls Try.prog 10 #[.slice A0 l0.length c0, .slice A1 l1.length c1] w fun e w' => e = .returned (.bool r) ∧ Drawn0 w w' := by
 have HR0 := Aside0.mk hr0
 have HC0 := Aside0.mk hc0
 clear hr0 hc0
 have HR1 := Aside0.mk hr1
 have HC1 := Aside0.mk hc1
 clear hr1 hc1
 have H := h
 clear h
 unfold selvagelaw17_same.f at H
 replace H := itEn H
 rcases H with ⟨_, _, _, H⟩ | ⟨c3, c3b0, c3b1, H⟩
 ·cases H
 have c3b2 : (l0.length == l1.length) = true := by first | simpa using c3 | (simp at c3 ⊢; omega)
 clear c3
 have H' := Aside0.mk H
 clear H
 go_enter Try.func10, Try.ntmps10
 go_wp2
 repeat (go_quiet (fail); try go_wp2)
 go_loopg [5] k (fun kq v5 w' => ∃ (x5_1 : Int), v5 = .int .i64 x5_1 ∧ Aside0 (selvagelaw17_same.l0 kq l0 l1 x5_1 = some r) ∧ Aside0 (kq ≤ k) ∧ Drawn0 w w')
 case atStart => exact ⟨(0), eqNow, H', ⟨Nat.le_refl _⟩, drawnNow⟩
 case round =>
  clear H'
  try clear c1
  try clear c3
  try clear c3b0
  try clear c3b1
  try clear c3b2
  obtain ⟨x5_1, rfl, HA, HK1, ⟨m1, rfl⟩⟩ := hrel
  cases gk with
  | zero => exact absurd HA.out (by simp [selvagelaw17_same.l0])
  | succ k1 =>
   have H := HA.out
   clear HA
   simp only [selvagelaw17_same.l0] at H
   replace H := itLn H
   rcases H with ⟨-, c4b0, H⟩ | ⟨-, c4b0, H⟩
   ·obtain rfl := Option.some.inj H
    go_wp2
    repeat (go_quiet (fail); try go_wp2)
    go_ret
    exact ⟨eqFin, drawnNow⟩
   replace H := itLn H
   rcases H with ⟨_, _, H⟩ | ⟨-, c5b0, H⟩
   ·cases H
   replace H := itLn H
   rcases H with ⟨_, _, H⟩ | ⟨-, c6b0, H⟩
   ·cases H
   replace H := itEn H
   rcases H with ⟨_, _, _, H⟩ | ⟨-, c7b0, c7b1, H⟩
   ·cases H
   have H' := Aside0.mk H
   clear H
   have p284 : 0 ≤ (x5_1 : Int) := ofDec
   have q284 : x5_1 < (l0.length : Int) := ofDec
   obtain ⟨ad284, e284, hx284_0⟩ := Kd.at_string HR0.out x5_1 p284 q284
   cases e284
   replace p284 := eq_true p284
   replace q284 := eq_true q284
   have p285 : 0 ≤ (x5_1 : Int) := ofDec
   have q285 : x5_1 < (l1.length : Int) := ofDec
   obtain ⟨ad285, e285, hx285_0⟩ := Kd.at_string HR1.out x5_1 p285 q285
   cases e285
   replace p285 := eq_true p285
   replace q285 := eq_true q285
   go_wp2
   repeat (go_quiet (fail); try go_wp2)
   go_roundg k1
   case measure => have := HK1.out; omega
   case rel => exact ⟨(wrap64 (x5_1 + 1)), eqNow, H', ⟨by have := HK1.out; omega⟩, drawnNow⟩
mutual
def selvagelaw17_unlike.l0 : Nat → List ByteArray → Int → Option (Bool)
 | 0, _, _ => none
 | k + 1, x0, x3 => if x3 < (x0.length : Int) then (selvagelaw17_unlike.l1 k x0 x3 0) else (some true)
def selvagelaw17_unlike.l1 : Nat → List ByteArray → Int → Int → Option (Bool)
 | 0, _, _, _ => none
 | k + 1, x0, x3, x4 => if x4 < x3 then (if 0 ≤ x3 then (if x3 < (x0.length : Int) then (if 0 ≤ x4 then (if x4 < (x0.length : Int) then (if (rdOf ByteArray.empty x0 x3).toList = (rdOf ByteArray.empty x0 x4).toList then (some false) else (selvagelaw17_unlike.l1 k x0 x3 (wrap64 (x4 + 1)))) else (none)) else (none)) else (none)) else (none)) else (selvagelaw17_unlike.l0 k x0 (wrap64 (x3 + 1)))
end
def selvagelaw17_unlike.f (k : Nat) (l0 : List ByteArray) : Option (Bool) := selvagelaw17_unlike.l0 k l0 0
set_option maxHeartbeats 8000000 in
set_option maxRecDepth 100000 in
theorem selvagelaw17_unlike.calls (k : Nat) (A0 : Option Addr) (c0 : Nat) (l0 : List ByteArray) (r : Bool) (w : World) (hr0 : Kd.C Kd.string w A0 l0.length l0) (hc0 : l0.length ≤ c0) (h : selvagelaw17_unlike.f k l0 = some r) :
  Calls Try.prog 13 #[.slice A0 l0.length c0] w fun e w' => e = .returned (.bool r) ∧ Drawn0 w w' := by
 have HR0 := Aside0.mk hr0
 have HC0 := Aside0.mk hc0
 clear hr0 hc0
 have H := h
 clear h
 unfold selvagelaw17_unlike.f at H
 have H' := Aside0.mk H
 clear H
 go_enter Try.func13, Try.ntmps13
 go_wp2
 repeat (go_quiet (fail); try go_wp2)
 go_loopg [3] k (fun kq v3 w' => ∃ (x3_1 : Int), v3 = .int .i64 x3_1 ∧ Aside0 (selvagelaw17_unlike.l0 kq l0 x3_1 = some r) ∧ Aside0 (kq ≤ k) ∧ Drawn0 w w')
 case atStart => exact ⟨(0), eqNow, H', ⟨Nat.le_refl _⟩, drawnNow⟩
 case round =>
  clear H'
  obtain ⟨x3_1, rfl, HA, HK1, ⟨m1, rfl⟩⟩ := hrel
  cases gk with
  | zero => exact absurd HA.out (by simp [selvagelaw17_unlike.l0])
  | succ k1 =>
   have H := HA.out
   clear HA
   simp only [selvagelaw17_unlike.l0] at H
   replace H := itLn H
   rcases H with ⟨-, c2b0, H⟩ | ⟨-, c2b0, H⟩
   ·obtain rfl := Option.some.inj H
    go_wp2
    repeat (go_quiet (fail); try go_wp2)
    go_ret
    exact ⟨eqFin, drawnNow⟩
   have H' := Aside0.mk H
   clear H
   go_wp2
   repeat (go_quiet (fail); try go_wp2)
   go_loopg [4] k1 (fun kq v4 w' => ∃ (x4_2 : Int), v4 = .int .i64 x4_2 ∧ Aside0 (selvagelaw17_unlike.l1 kq l0 x3_1 x4_2 = some r) ∧ Aside0 (kq ≤ k1) ∧ Drawn0 w w')
   case atStart => exact ⟨(0), eqNow, H', ⟨Nat.le_refl _⟩, drawnNow⟩
   case round =>
    clear H'
    try clear c2
    try clear c2b0
    obtain ⟨x4_2, rfl, HA, HK2, ⟨m2, rfl⟩⟩ := hrel
    cases gk with
    | zero => exact absurd HA.out (by simp [selvagelaw17_unlike.l1])
    | succ k2 =>
     have H := HA.out
     clear HA
     simp only [selvagelaw17_unlike.l1] at H
     replace H := itLn H
     rcases H with ⟨-, c3b0, H⟩ | ⟨-, c3b0, H⟩
     ·have H' := Aside0.mk H
      clear H
      go_wp2
      repeat (go_quiet (fail); try go_wp2)
      go_roundg k2
      case measure => have := HK1.out; have := HK2.out; omega
      case rel => exact ⟨(wrap64 (x3_1 + 1)), eqNow, H', ⟨by have := HK1.out; have := HK2.out; omega⟩, drawnNow⟩
     replace H := itLn H
     rcases H with ⟨_, _, H⟩ | ⟨-, c4b0, H⟩
     ·cases H
     replace H := itLn H
     rcases H with ⟨_, _, H⟩ | ⟨-, c5b0, H⟩
     ·cases H
     replace H := itLn H
     rcases H with ⟨_, _, H⟩ | ⟨-, c6b0, H⟩
     ·cases H
     replace H := itLn H
     rcases H with ⟨_, _, H⟩ | ⟨-, c7b0, H⟩
     ·cases H
     replace H := itE H
     rcases H with ⟨-, c8b0, c8b1, H⟩ | ⟨c8, c8b0, c8b1, H⟩
     ·obtain rfl := Option.some.inj H
      have p286 : 0 ≤ (x3_1 : Int) := ofDec
      have q286 : x3_1 < (l0.length : Int) := ofDec
      obtain ⟨ad286, e286, hx286_0⟩ := Kd.at_string HR0.out x3_1 p286 q286
      cases e286
      replace p286 := eq_true p286
      replace q286 := eq_true q286
      have p287 : 0 ≤ (x4_2 : Int) := ofDec
      have q287 : x4_2 < (l0.length : Int) := ofDec
      obtain ⟨ad287, e287, hx287_0⟩ := Kd.at_string HR0.out x4_2 p287 q287
      obtain rfl : ad286 = ad287 := (by injection e287)
      replace p287 := eq_true p287
      replace q287 := eq_true q287
      go_wp2
      repeat (go_quiet (fail); try go_wp2)
      go_ret
      exact ⟨eqFin, drawnNow⟩
     have H' := Aside0.mk H
     clear H
     have p286 : 0 ≤ (x3_1 : Int) := ofDec
     have q286 : x3_1 < (l0.length : Int) := ofDec
     obtain ⟨ad286, e286, hx286_0⟩ := Kd.at_string HR0.out x3_1 p286 q286
     cases e286
     replace p286 := eq_true p286
     replace q286 := eq_true q286
     have p287 : 0 ≤ (x4_2 : Int) := ofDec
     have q287 : x4_2 < (l0.length : Int) := ofDec
     obtain ⟨ad287, e287, hx287_0⟩ := Kd.at_string HR0.out x4_2 p287 q287
     obtain rfl : ad286 = ad287 := (by injection e287)
     replace p287 := eq_true p287
     replace q287 := eq_true q287
     go_wp2
     repeat (go_quiet (fail); try go_wp2)
     go_roundg k2
     case measure => have := HK1.out; have := HK2.out; omega
     case rel => exact ⟨(wrap64 (x4_2 + 1)), eqNow, H', ⟨by have := HK1.out; have := HK2.out; omega⟩, drawnNow⟩
end Go.Proofs.Ytkoagpnoaibdjaa.Pp
