import Derived.Test.YtkoagpnoaibdjaaESt
import Derived.Test.YtkoagpnoaibdjaaPp0
namespace Go.Proofs.Ytkoagpnoaibdjaa.Pp
open Go.RowKit Go.Proofs.Ytkoagpnoaibdjaa.Ext Go.Proofs.YtkoagpnoaibdjaaW.PrintWords Go.Proofs.YtkoagpnoaibdjaaW.PrintLast Go.Proofs.YtkoagpnoaibdjaaW.PrintMore
attribute [local go_sem] max2_int min2_int max_two min_two max_three min_three max_four min_four   -- for this text's walks alone
set_option linter.unusedVariables false
set_option linter.unusedSimpArgs false
mutual
def selvageref01_Valid.l0 : Nat → List ByteArray → Int → Option (Bool)
 | 0, _, _ => none
 | k + 1, x0, x3 => if x3 < (x0.length : Int) then (if 0 ≤ x3 then (selvageref01_Valid.l1 k x0 x3 ((rdOf ByteArray.empty x0 x3).size : Int) 0) else (none)) else (some true)
def selvageref01_Valid.l1 : Nat → List ByteArray → Int → Int → Int → Option (Bool)
 | 0, _, _, _, _ => none
 | k + 1, x0, x3, x4, x5 => if x5 < (wrap64 (x4 - 1)) then (if 0 ≤ x3 then (if x3 < (x0.length : Int) then (if 0 ≤ x5 then (if x5 < ((rdOf ByteArray.empty x0 x3).size : Int) then (if (bt (rdOf ByteArray.empty x0 x3) x5) = 10 then (some false) else (selvageref01_Valid.l1 k x0 x3 x4 (wrap64 (x5 + 1)))) else (none)) else (none)) else (none)) else (none)) else (if x4 = 0 then (some false) else (if x3 < (wrap64 ((x0.length : Int) - 1)) then (if 0 ≤ x3 then (if x3 < (x0.length : Int) then (if 0 ≤ (wrap64 (x4 - 1)) then (if (wrap64 (x4 - 1)) < ((rdOf ByteArray.empty x0 x3).size : Int) then (if (bt (rdOf ByteArray.empty x0 x3) (wrap64 (x4 - 1))) = 10 then (selvageref01_Valid.l0 k x0 (wrap64 (x3 + 1))) else (some false)) else (none)) else (none)) else (none)) else (none)) else (selvageref01_Valid.l0 k x0 (wrap64 (x3 + 1)))))
end
def selvageref01_Valid.f (k : Nat) (l0 : List ByteArray) : Option (Bool) := selvageref01_Valid.l0 k l0 0
theorem selvageref01_Valid.mono_l : ∀ k, (∀ y0 y1, LeO (selvageref01_Valid.l0 k y0 y1) (selvageref01_Valid.l0 (k + 1) y0 y1)) ∧ (∀ y0 y1 y2 y3, LeO (selvageref01_Valid.l1 k y0 y1 y2 y3) (selvageref01_Valid.l1 (k + 1) y0 y1 y2 y3))
 | 0 => ⟨fun _ _ r h => by simp [selvageref01_Valid.l0] at h, fun _ _ _ _ r h => by simp [selvageref01_Valid.l1] at h⟩
 | k + 1 => by
  obtain ⟨ih0, ih1⟩ := selvageref01_Valid.mono_l k
  refine ⟨?_, ?_⟩
  ·intro y0 y1
   unfold selvageref01_Valid.l0
   repeat' first
   | (with_reducible exact ih0 _ _)
   | (with_reducible exact ih1 _ _ _ _)
   | (with_reducible exact LeO.refl _)
   | (with_reducible exact LeO.none _)
   | (with_reducible refine LeO.ite ?_ ?_)
   | (with_reducible refine LeO.bind ?_ (fun _ => ?_))
   | exact ih0 _ _
   | exact ih1 _ _ _ _
   | exact LeO.none _
   | refine LeO.ite ?_ ?_
   | refine LeO.bind ?_ (fun _ => ?_)
  ·intro y0 y1 y2 y3
   unfold selvageref01_Valid.l1
   repeat' first
   | (with_reducible exact ih0 _ _)
   | (with_reducible exact ih1 _ _ _ _)
   | (with_reducible exact LeO.refl _)
   | (with_reducible exact LeO.none _)
   | (with_reducible refine LeO.ite ?_ ?_)
   | (with_reducible refine LeO.bind ?_ (fun _ => ?_))
   | exact ih0 _ _
   | exact ih1 _ _ _ _
   | exact LeO.none _
   | refine LeO.ite ?_ ?_
   | refine LeO.bind ?_ (fun _ => ?_)
theorem selvageref01_Valid.mono : ∀ a0 k, LeO (selvageref01_Valid.f k a0) (selvageref01_Valid.f (k + 1) a0) := by
 intro a0 k
 obtain ⟨ih0, ih1⟩ := selvageref01_Valid.mono_l k
 unfold selvageref01_Valid.f
 repeat' first
   | (with_reducible exact ih0 _ _)
   | (with_reducible exact ih1 _ _ _ _)
   | (with_reducible exact LeO.refl _)
   | (with_reducible exact LeO.none _)
   | (with_reducible refine LeO.ite ?_ ?_)
   | (with_reducible refine LeO.bind ?_ (fun _ => ?_))
   | exact ih0 _ _
   | exact ih1 _ _ _ _
   | exact LeO.none _
   | refine LeO.ite ?_ ?_
   | refine LeO.bind ?_ (fun _ => ?_)
set_option maxHeartbeats 8000000 in
set_option maxRecDepth 100000 in
theorem selvageref01_Valid.calls (k : Nat) (A0 : Option Addr) (c0 : Nat) (l0 : List ByteArray) (r : Bool) (w : World) (hr0 : Kd.C Kd.string w A0 l0.length l0) (hc0 : l0.length ≤ c0) (h : selvageref01_Valid.f k l0 = some r) :
  Calls Try.prog 16 #[.slice A0 l0.length c0] w fun e w' => e = .returned (.bool r) ∧ Drawn0 w w' := by
 have HR0 := Aside0.mk hr0
 have HC0 := Aside0.mk hc0
 clear hr0 hc0
 have H := h
 clear h
 unfold selvageref01_Valid.f at H
 have H' := Aside0.mk H
 clear H
 go_enter Try.func16, Try.ntmps16
 go_wp2
 go_loopg [3] k (fun kq v3 w' => ∃ (x3_1 : Int), v3 = .int .i64 x3_1 ∧ Aside0 (selvageref01_Valid.l0 kq l0 x3_1 = some r) ∧ Aside0 (kq ≤ k) ∧ Drawn0 w w')
 case atStart => exact ⟨(0), eqNow, H', ⟨Nat.le_refl _⟩, drawnNow⟩
 case round =>
  clear H'
  obtain ⟨x3_1, rfl, HA, HK1, ⟨m1, rfl⟩⟩ := hrel
  cases gk with
  | zero => exact absurd HA.out (by simp [selvageref01_Valid.l0])
  | succ k1 =>
   have H := HA.out
   clear HA
   simp only [selvageref01_Valid.l0] at H
   replace H := itLn H
   rcases H with ⟨-, c2b0, H⟩ | ⟨-, c2b0, H⟩
   ·obtain rfl := Option.some.inj H
    go_wp2
    go_ret
    exact ⟨eqFin, drawnNow⟩
   replace H := itLn H
   rcases H with ⟨_, _, H⟩ | ⟨-, c3b0, H⟩
   ·cases H
   have H' := Aside0.mk H
   clear H
   have p101 : 0 ≤ (x3_1 : Int) := ofDec
   have q101 : x3_1 < (l0.length : Int) := ofDec
   obtain ⟨ad101, e101, hx101_0⟩ := Kd.at_string HR0.out x3_1 p101 q101
   cases e101
   replace p101 := eq_true p101
   replace q101 := eq_true q101
   go_wp2
   go_loopg [5] k1 (fun kq v5 w' => ∃ (x5_2 : Int), v5 = .int .i64 x5_2 ∧ Aside0 (selvageref01_Valid.l1 kq l0 x3_1 ((rdOf ByteArray.empty l0 x3_1).size : Int) x5_2 = some r) ∧ Aside0 (kq ≤ k1) ∧ Drawn0 w w')
   case atStart => exact ⟨(0), eqNow, H', ⟨Nat.le_refl _⟩, drawnNow⟩
   case round =>
    clear H'
    try clear c2
    try clear c2b0
    try clear c3
    try clear c3b0
    try clear hx101_0
    try clear p101
    try clear q101
    obtain ⟨x5_2, rfl, HA, HK2, ⟨m2, rfl⟩⟩ := hrel
    cases gk with
    | zero => exact absurd HA.out (by simp [selvageref01_Valid.l1])
    | succ k2 =>
     have H := HA.out
     clear HA
     simp only [selvageref01_Valid.l1] at H
     replace H := itL H
     rcases H with ⟨-, c4b0, H⟩ | ⟨-, c4b0, H⟩
     ·replace H := itLn H
      rcases H with ⟨_, _, H⟩ | ⟨-, c5b0, H⟩
      ·cases H
      replace H := itLn H
      rcases H with ⟨_, _, H⟩ | ⟨-, c6b0, H⟩
      ·cases H
      replace H := itLn H
      rcases H with ⟨_, _, H⟩ | ⟨-, c7b0, H⟩
      ·cases H
      replace H := itLn H
      rcases H with ⟨_, _, H⟩ | ⟨-, c8b0, H⟩
      ·cases H
      replace H := itE H
      rcases H with ⟨-, c10b0, c10b1, H⟩ | ⟨c10, c10b0, c10b1, H⟩
      ·obtain rfl := Option.some.inj H
       have p102 : 0 ≤ (x3_1 : Int) := ofDec
       have q102 : x3_1 < (l0.length : Int) := ofDec
       obtain ⟨ad102, e102, hx102_0⟩ := Kd.at_string HR0.out x3_1 p102 q102
       obtain rfl : ad101 = ad102 := (by injection e102)
       replace p102 := eq_true p102
       replace q102 := eq_true q102
       have p9 : 0 ≤ (x5_2 : Int) := ofDec
       have q9 : x5_2 < ((rdOf ByteArray.empty l0 x3_1).size : Int) := ofDec
       have hx9 := bt_at (rdOf ByteArray.empty l0 x3_1) x5_2
       replace p9 := eq_true p9
       replace q9 := eq_true q9
       go_wp2
       go_ret
       exact ⟨eqFin, drawnNow⟩
      have H' := Aside0.mk H
      clear H
      have p102 : 0 ≤ (x3_1 : Int) := ofDec
      have q102 : x3_1 < (l0.length : Int) := ofDec
      obtain ⟨ad102, e102, hx102_0⟩ := Kd.at_string HR0.out x3_1 p102 q102
      obtain rfl : ad101 = ad102 := (by injection e102)
      replace p102 := eq_true p102
      replace q102 := eq_true q102
      have p9 : 0 ≤ (x5_2 : Int) := ofDec
      have q9 : x5_2 < ((rdOf ByteArray.empty l0 x3_1).size : Int) := ofDec
      have hx9 := bt_at (rdOf ByteArray.empty l0 x3_1) x5_2
      replace p9 := eq_true p9
      replace q9 := eq_true q9
      go_wp2
      go_roundg k2
      case measure => have := HK1.out; have := HK2.out; omega
      case rel => exact ⟨(wrap64 (x5_2 + 1)), eqNow, H', ⟨by have := HK1.out; have := HK2.out; omega⟩, drawnNow⟩
     replace H := itE H
     rcases H with ⟨-, c11b0, c11b1, H⟩ | ⟨c11, c11b0, c11b1, H⟩
     ·obtain rfl := Option.some.inj H
      go_wp2
      go_ret
      exact ⟨eqFin, drawnNow⟩
     replace H := itLn H
     rcases H with ⟨-, c12b0, H⟩ | ⟨-, c12b0, H⟩
     ·have H' := Aside0.mk H
      clear H
      go_wp2
      go_roundg k2
      case measure => have := HK1.out; have := HK2.out; omega
      case rel => exact ⟨(wrap64 (x3_1 + 1)), eqNow, H', ⟨by have := HK1.out; have := HK2.out; omega⟩, drawnNow⟩
     replace H := itLn H
     rcases H with ⟨_, _, H⟩ | ⟨-, c13b0, H⟩
     ·cases H
     replace H := itLn H
     rcases H with ⟨_, _, H⟩ | ⟨-, c14b0, H⟩
     ·cases H
     obtain ⟨ji15, hji15⟩ : ∃ j_ : Int, (wrap64 (((rdOf ByteArray.empty l0 x3_1).size : Int) - 1)) = j_ := ⟨_, rfl⟩
     first | rw [hji15] at H | simp only [hji15] at H
     (try rw [hji15] at c4b0)
     have hji15w : (IntKind.i64.wrap (((rdOf ByteArray.empty l0 x3_1).size : Int) - 1)) = ji15 := (i64_w _).trans hji15
     replace H := itLn H
     rcases H with ⟨_, _, H⟩ | ⟨-, c16b0, H⟩
     ·cases H
     replace H := itLn H
     rcases H with ⟨_, _, H⟩ | ⟨-, c17b0, H⟩
     ·cases H
     replace H := itE H
     rcases H with ⟨-, c19b0, c19b1, H⟩ | ⟨c19, c19b0, c19b1, H⟩
     ·have H' := Aside0.mk H
      clear H
      have p103 : 0 ≤ (x3_1 : Int) := ofDec
      have q103 : x3_1 < (l0.length : Int) := ofDec
      obtain ⟨ad103, e103, hx103_0⟩ := Kd.at_string HR0.out x3_1 p103 q103
      obtain rfl : ad101 = ad103 := (by injection e103)
      replace p103 := eq_true p103
      replace q103 := eq_true q103
      have p18 : 0 ≤ ((ji15) : Int) := ofDec
      have q18 : (ji15) < ((rdOf ByteArray.empty l0 x3_1).size : Int) := ofDec
      have hx18 := bt_at (rdOf ByteArray.empty l0 x3_1) (ji15)
      replace p18 := eq_true p18
      replace q18 := eq_true q18
      go_wp2
      go_roundg k2
      case measure => have := HK1.out; have := HK2.out; omega
      case rel => exact ⟨(wrap64 (x3_1 + 1)), eqNow, H', ⟨by have := HK1.out; have := HK2.out; omega⟩, drawnNow⟩
     obtain rfl := Option.some.inj H
     have p103 : 0 ≤ (x3_1 : Int) := ofDec
     have q103 : x3_1 < (l0.length : Int) := ofDec
     obtain ⟨ad103, e103, hx103_0⟩ := Kd.at_string HR0.out x3_1 p103 q103
     obtain rfl : ad101 = ad103 := (by injection e103)
     replace p103 := eq_true p103
     replace q103 := eq_true q103
     have p18 : 0 ≤ ((ji15) : Int) := ofDec
     have q18 : (ji15) < ((rdOf ByteArray.empty l0 x3_1).size : Int) := ofDec
     have hx18 := bt_at (rdOf ByteArray.empty l0 x3_1) (ji15)
     replace p18 := eq_true p18
     replace q18 := eq_true q18
     go_wp2
     go_ret
     exact ⟨by first | rfl | (simp; done) | (simp only [← hji15] <;> (first | rfl | simp)) | (simp [*]; done) | (simp [*] <;> rfl) | (simp only [i64_w, i32_w, u8_w]; first | rfl | (simp [errW_none, errW_some] <;> rfl)) | (simp only [bne_nil, beq_nil]; first | rfl | (simp <;> rfl)), drawnNow⟩
mutual
def selvageref06_Valid.j0 : Nat → List (S57) → Int → Int → Bool → Option (Int)
 | 0, _, _, _, _ => none
 | k + 1, x0, x1, x2, x24 => if x24 = true then (some 1) else (selvageref06_Valid.l0 k x0 x1 x2 0 0 0)
def selvageref06_Valid.l0 : Nat → List (S57) → Int → Int → Int → Int → Int → Option (Int)
 | 0, _, _, _, _, _, _ => none
 | k + 1, x0, x1, x2, x7, x8, x9 => if x9 < (x0.length : Int) then (if 0 ≤ x9 then (if ((rd_T57 x0 x9).f0) < x7 then (some 60) else (if ((rd_T57 x0 x9).f2) < x8 then (some 60) else (if ((rd_T57 x0 x9).f0) > x1 then (some 60) else (if ((rd_T57 x0 x9).f2) > x2 then (some 60) else (if (wrap64 (((rd_T57 x0 x9).f0) - x7)) = (wrap64 (((rd_T57 x0 x9).f2) - x8)) then (if ((rd_T57 x0 x9).f1) < 0 then (some 60) else (if ((rd_T57 x0 x9).f3) < 0 then (some 60) else (if ((rd_T57 x0 x9).f1) > (wrap64 (x1 - ((rd_T57 x0 x9).f0))) then (some 60) else (if ((rd_T57 x0 x9).f3) > (wrap64 (x2 - ((rd_T57 x0 x9).f2))) then (some 60) else (if ((rd_T57 x0 x9).f1) = 0 then (if ((rd_T57 x0 x9).f3) = 0 then (some 60) else (selvageref06_Valid.l0 k x0 x1 x2 (wrap64 (((rd_T57 x0 x9).f0) + ((rd_T57 x0 x9).f1))) (wrap64 (((rd_T57 x0 x9).f2) + ((rd_T57 x0 x9).f3))) (wrap64 (x9 + 1)))) else (selvageref06_Valid.l0 k x0 x1 x2 (wrap64 (((rd_T57 x0 x9).f0) + ((rd_T57 x0 x9).f1))) (wrap64 (((rd_T57 x0 x9).f2) + ((rd_T57 x0 x9).f3))) (wrap64 (x9 + 1)))))))) else (some 60)))))) else (none)) else (if (wrap64 (x1 - x7)) = (wrap64 (x2 - x8)) then (some 0) else (some 60))
end
def selvageref06_Valid.f (k : Nat) (l0 : List (S57)) (a1 : Int) (a2 : Int) : Option (Int) := if a1 < 0 then (selvageref06_Valid.j0 k l0 a1 a2 true) else (if a1 > 4194304 then (selvageref06_Valid.j0 k l0 a1 a2 true) else (if a2 < 0 then (selvageref06_Valid.j0 k l0 a1 a2 true) else (selvageref06_Valid.j0 k l0 a1 a2 (decide (a2 > 4194304)))))
set_option maxHeartbeats 80000000 in
set_option maxRecDepth 100000 in
theorem selvageref06_Valid.calls (k : Nat) (A0 : Option Addr) (c0 : Nat) (l0 : List (S57)) (a1 : Int) (a2 : Int) (r : Int) (w : World) (hr0 : Kd.C k57 w A0 l0.length l0) (hc0 : l0.length ≤ c0) (h : selvageref06_Valid.f k l0 a1 a2 = some r) :
  Calls Try.prog 35 #[.slice A0 l0.length c0, .int .i64 a1, .int .i64 a2] w fun e w' => e = .returned (.int .i64 r) ∧ Below w.heap.size w w' := by
 have hu57 := Try.underlying57
 have HR0 := Aside0.mk hr0
 have HC0 := Aside0.mk hc0
 clear hr0 hc0
 have HB := Aside0.mk (Below.refl w.heap.size w)
 have H := h
 clear h
 unfold selvageref06_Valid.f at H
 have HC4 := Aside0.mk H
 clear H
 go_enter Try.func35, Try.ntmps35
 try simp only [List.append_eq, List.cons_append, List.nil_append]
 go_upto_region 1 with (fail)
 go_cut [24] (fun v24 wc => ∃ (kq : Nat) (x24_3 : Bool), v24 = .bool x24_3 ∧ Aside0 (selvageref06_Valid.j0 kq l0 a1 a2 x24_3 = some r) ∧ Aside0 (kq ≤ k) ∧ Aside0 (Below w.heap.size w wc))
 case first =>
  have H := HC4.out
  clear HC4
  replace H := itL H
  rcases H with ⟨-, c5b0, H⟩ | ⟨-, c5b0, H⟩
  ·(first | rw [c5b0] | (simp only [i64_w, i32_w]; rw [c5b0]) | skip)
   have H' := Aside0.mk H
   clear H
   go_wp2
   go_meet
   case rel => exact ⟨_, (true), eqNow, H', ⟨by first | omega | exact Nat.le_refl _⟩, ⟨belNow⟩⟩
  (first | rw [c5b0] | (simp only [i64_w, i32_w]; rw [c5b0]) | skip)
  replace H := itG H
  rcases H with ⟨-, c6b0, H⟩ | ⟨-, c6b0, H⟩
  ·have H' := Aside0.mk H
   clear H
   go_wp2
   go_meet
   case rel => exact ⟨_, (true), eqNow, H', ⟨by first | omega | exact Nat.le_refl _⟩, ⟨belNow⟩⟩
  replace H := itL H
  rcases H with ⟨-, c7b0, H⟩ | ⟨-, c7b0, H⟩
  ·have H' := Aside0.mk H
   clear H
   go_wp2
   go_meet
   case rel => exact ⟨_, (true), eqNow, H', ⟨by first | omega | exact Nat.le_refl _⟩, ⟨belNow⟩⟩
  have H' := Aside0.mk H
  clear H
  go_wp2
  go_meet
  case rel => exact ⟨_, (decide (a2 > 4194304)), eqNow, H', ⟨by first | omega | exact Nat.le_refl _⟩, ⟨belNow⟩⟩
 case rest =>
  clear HC4
  obtain ⟨kq, x24_3, rfl, HA, HJ3, HB⟩ := hcut
  cases kq with
  | zero => exact absurd HA.out (by simp [selvageref06_Valid.j0])
  | succ kj3 =>
   have H := HA.out
   clear HA
   simp only [selvageref06_Valid.j0] at H
   replace H := itB H
   rcases H with ⟨rfl, H⟩ | ⟨rfl, H⟩
   ·obtain rfl := Option.some.inj H
    go_wp2
    go_ret
    exact ⟨eqEnd, belNow⟩
   have H' := Aside0.mk H
   clear H
   go_wp2
   go_loopg [7, 8, 9] kj3 (fun kq v7 v8 v9 w' => ∃ (x7_2 : Int) (x8_2 : Int) (x9_2 : Int), v7 = .int .i64 x7_2 ∧ v8 = .int .i64 x8_2 ∧ v9 = .int .i64 x9_2 ∧ Aside0 (selvageref06_Valid.l0 kq l0 a1 a2 x7_2 x8_2 x9_2 = some r) ∧ Aside0 (kq ≤ kj3) ∧ Aside0 (Below w.heap.size w w'))
   case atStart => exact ⟨(0), (0), (0), eqNow, eqNow, eqNow, H', ⟨Nat.le_refl _⟩, ⟨belNow⟩⟩
   case round =>
    clear H'
    try clear c8
    obtain ⟨x7_2, x8_2, x9_2, rfl, rfl, rfl, HA, HK2, HB⟩ := hrel
    cases gk with
    | zero => exact absurd HA.out (by simp [selvageref06_Valid.l0])
    | succ k2 =>
     have H := HA.out
     clear HA
     simp only [selvageref06_Valid.l0] at H
     replace H := itLn H
     rcases H with ⟨-, c9b0, H⟩ | ⟨-, c9b0, H⟩
     ·replace H := itEn H
      rcases H with ⟨c46, c46b0, c46b1, H⟩ | ⟨-, c46b0, c46b1, H⟩
      ·obtain rfl := Option.some.inj H
       go_wp2
       go_ret
       exact ⟨eqEnd, belNow⟩
      obtain rfl := Option.some.inj H
      go_wp2
      go_ret
      exact ⟨eqEnd, belNow⟩
     replace H := itLn H
     rcases H with ⟨_, _, H⟩ | ⟨-, c10b0, H⟩
     ·cases H
     replace H := itL H
     rcases H with ⟨-, c11b0, H⟩ | ⟨-, c11b0, H⟩
     ·obtain rfl := Option.some.inj H
      obtain ⟨ad104, rfl, hx104_0, hx104_1, hx104_2, hx104_3, p104, q104⟩ := atU_T57 HR0 HB x9_2
      go_wp2_with (first | ((with_reducible refine gate_dst (N := 10) rfl ?_); refine boxEv (N := 10) #[.int .i64 0, .int .i64 0, .int .i64 0, .int .i64 0] 57 ?_; intro gb105 hg w12 hbox hb; have BK105 := Aside0.mk hbox; have GW105 := gwN HB hg; have GE105 := GW105; replace HB := hbD HB hb; clear hb hbox hg; obtain ⟨hcz13_0, hcz13_1, hcz13_2, hcz13_3, hfz13_0, hfz13_1, hfz13_2, hfz13_3⟩ := bcf4 (W := w12) BK105))
      go_ret
      exact ⟨eqEnd, belPut⟩
     replace H := itL H
     rcases H with ⟨-, c14b0, H⟩ | ⟨-, c14b0, H⟩
     ·obtain rfl := Option.some.inj H
      obtain ⟨ad104, rfl, hx104_0, hx104_1, hx104_2, hx104_3, p104, q104⟩ := atU_T57 HR0 HB x9_2
      go_wp2_with (first | ((with_reducible refine gate_dst (N := 10) rfl ?_); refine boxEv (N := 10) #[.int .i64 0, .int .i64 0, .int .i64 0, .int .i64 0] 57 ?_; intro gb105 hg w15 hbox hb; have BK105 := Aside0.mk hbox; have GW105 := gwN HB hg; have GE105 := GW105; replace HB := hbD HB hb; clear hb hbox hg; obtain ⟨hcz16_0, hcz16_1, hcz16_2, hcz16_3, hfz16_0, hfz16_1, hfz16_2, hfz16_3⟩ := bcf4 (W := w15) BK105))
      go_ret
      exact ⟨eqEnd, belPut⟩
     replace H := itG H
     rcases H with ⟨-, c17b0, H⟩ | ⟨-, c17b0, H⟩
     ·obtain rfl := Option.some.inj H
      obtain ⟨ad104, rfl, hx104_0, hx104_1, hx104_2, hx104_3, p104, q104⟩ := atU_T57 HR0 HB x9_2
      go_wp2_with (first | ((with_reducible refine gate_dst (N := 10) rfl ?_); refine boxEv (N := 10) #[.int .i64 0, .int .i64 0, .int .i64 0, .int .i64 0] 57 ?_; intro gb105 hg w18 hbox hb; have BK105 := Aside0.mk hbox; have GW105 := gwN HB hg; have GE105 := GW105; replace HB := hbD HB hb; clear hb hbox hg; obtain ⟨hcz19_0, hcz19_1, hcz19_2, hcz19_3, hfz19_0, hfz19_1, hfz19_2, hfz19_3⟩ := bcf4 (W := w18) BK105))
      go_ret
      exact ⟨eqEnd, belPut⟩
     replace H := itG H
     rcases H with ⟨-, c20b0, H⟩ | ⟨-, c20b0, H⟩
     ·obtain rfl := Option.some.inj H
      obtain ⟨ad104, rfl, hx104_0, hx104_1, hx104_2, hx104_3, p104, q104⟩ := atU_T57 HR0 HB x9_2
      go_wp2_with (first | ((with_reducible refine gate_dst (N := 10) rfl ?_); refine boxEv (N := 10) #[.int .i64 0, .int .i64 0, .int .i64 0, .int .i64 0] 57 ?_; intro gb105 hg w21 hbox hb; have BK105 := Aside0.mk hbox; have GW105 := gwN HB hg; have GE105 := GW105; replace HB := hbD HB hb; clear hb hbox hg; obtain ⟨hcz22_0, hcz22_1, hcz22_2, hcz22_3, hfz22_0, hfz22_1, hfz22_2, hfz22_3⟩ := bcf4 (W := w21) BK105))
      go_ret
      exact ⟨eqEnd, belPut⟩
     replace H := itEn H
     rcases H with ⟨c23, c23b0, c23b1, H⟩ | ⟨-, c23b0, c23b1, H⟩
     ·obtain rfl := Option.some.inj H
      obtain ⟨ad104, rfl, hx104_0, hx104_1, hx104_2, hx104_3, p104, q104⟩ := atU_T57 HR0 HB x9_2
      go_wp2_with (first | ((with_reducible refine gate_dst (N := 10) rfl ?_); refine boxEv (N := 10) #[.int .i64 0, .int .i64 0, .int .i64 0, .int .i64 0] 57 ?_; intro gb105 hg w44 hbox hb; have BK105 := Aside0.mk hbox; have GW105 := gwN HB hg; have GE105 := GW105; replace HB := hbD HB hb; clear hb hbox hg; obtain ⟨hcz45_0, hcz45_1, hcz45_2, hcz45_3, hfz45_0, hfz45_1, hfz45_2, hfz45_3⟩ := bcf4 (W := w44) BK105))
      go_ret
      exact ⟨eqEnd, belPut⟩
     replace H := itL H
     rcases H with ⟨-, c24b0, H⟩ | ⟨-, c24b0, H⟩
     ·obtain rfl := Option.some.inj H
      obtain ⟨ad104, rfl, hx104_0, hx104_1, hx104_2, hx104_3, p104, q104⟩ := atU_T57 HR0 HB x9_2
      go_wp2_with (first | ((with_reducible refine gate_dst (N := 10) rfl ?_); refine boxEv (N := 10) #[.int .i64 0, .int .i64 0, .int .i64 0, .int .i64 0] 57 ?_; intro gb105 hg w25 hbox hb; have BK105 := Aside0.mk hbox; have GW105 := gwN HB hg; have GE105 := GW105; replace HB := hbD HB hb; clear hb hbox hg; obtain ⟨hcz26_0, hcz26_1, hcz26_2, hcz26_3, hfz26_0, hfz26_1, hfz26_2, hfz26_3⟩ := bcf4 (W := w25) BK105))
      go_ret
      exact ⟨eqEnd, belPut⟩
     replace H := itL H
     rcases H with ⟨-, c27b0, H⟩ | ⟨-, c27b0, H⟩
     ·obtain rfl := Option.some.inj H
      obtain ⟨ad104, rfl, hx104_0, hx104_1, hx104_2, hx104_3, p104, q104⟩ := atU_T57 HR0 HB x9_2
      go_wp2_with (first | ((with_reducible refine gate_dst (N := 10) rfl ?_); refine boxEv (N := 10) #[.int .i64 0, .int .i64 0, .int .i64 0, .int .i64 0] 57 ?_; intro gb105 hg w28 hbox hb; have BK105 := Aside0.mk hbox; have GW105 := gwN HB hg; have GE105 := GW105; replace HB := hbD HB hb; clear hb hbox hg; obtain ⟨hcz29_0, hcz29_1, hcz29_2, hcz29_3, hfz29_0, hfz29_1, hfz29_2, hfz29_3⟩ := bcf4 (W := w28) BK105))
      go_ret
      exact ⟨eqEnd, belPut⟩
     replace H := itG H
     rcases H with ⟨-, c30b0, H⟩ | ⟨-, c30b0, H⟩
     ·obtain rfl := Option.some.inj H
      obtain ⟨ad104, rfl, hx104_0, hx104_1, hx104_2, hx104_3, p104, q104⟩ := atU_T57 HR0 HB x9_2
      go_wp2_with (first | ((with_reducible refine gate_dst (N := 10) rfl ?_); refine boxEv (N := 10) #[.int .i64 0, .int .i64 0, .int .i64 0, .int .i64 0] 57 ?_; intro gb105 hg w31 hbox hb; have BK105 := Aside0.mk hbox; have GW105 := gwN HB hg; have GE105 := GW105; replace HB := hbD HB hb; clear hb hbox hg; obtain ⟨hcz32_0, hcz32_1, hcz32_2, hcz32_3, hfz32_0, hfz32_1, hfz32_2, hfz32_3⟩ := bcf4 (W := w31) BK105))
      go_ret
      exact ⟨eqEnd, belPut⟩
     replace H := itG H
     rcases H with ⟨-, c33b0, H⟩ | ⟨-, c33b0, H⟩
     ·obtain rfl := Option.some.inj H
      obtain ⟨ad104, rfl, hx104_0, hx104_1, hx104_2, hx104_3, p104, q104⟩ := atU_T57 HR0 HB x9_2
      go_wp2_with (first | ((with_reducible refine gate_dst (N := 10) rfl ?_); refine boxEv (N := 10) #[.int .i64 0, .int .i64 0, .int .i64 0, .int .i64 0] 57 ?_; intro gb105 hg w34 hbox hb; have BK105 := Aside0.mk hbox; have GW105 := gwN HB hg; have GE105 := GW105; replace HB := hbD HB hb; clear hb hbox hg; obtain ⟨hcz35_0, hcz35_1, hcz35_2, hcz35_3, hfz35_0, hfz35_1, hfz35_2, hfz35_3⟩ := bcf4 (W := w34) BK105))
      go_ret
      exact ⟨eqEnd, belPut⟩
     replace H := itEn H
     rcases H with ⟨c36, c36b0, c36b1, H⟩ | ⟨-, c36b0, c36b1, H⟩
     ·have H' := Aside0.mk H
      clear H
      obtain ⟨ad104, rfl, hx104_0, hx104_1, hx104_2, hx104_3, p104, q104⟩ := atU_T57 HR0 HB x9_2
      go_wp2_with (first | ((with_reducible refine gate_dst (N := 10) rfl ?_); refine boxEv (N := 10) #[.int .i64 0, .int .i64 0, .int .i64 0, .int .i64 0] 57 ?_; intro gb105 hg w42 hbox hb; have BK105 := Aside0.mk hbox; have GW105 := gwN HB hg; have GE105 := GW105; replace HB := hbD HB hb; clear hb hbox hg; obtain ⟨hcz43_0, hcz43_1, hcz43_2, hcz43_3, hfz43_0, hfz43_1, hfz43_2, hfz43_3⟩ := bcf4 (W := w42) BK105))
      go_roundg k2
      case measure => have := HJ3.out; have := HK2.out; omega
      case rel => exact ⟨(wrap64 (((rd_T57 l0 x9_2).f0) + ((rd_T57 l0 x9_2).f1))), (wrap64 (((rd_T57 l0 x9_2).f2) + ((rd_T57 l0 x9_2).f3))), (wrap64 (x9_2 + 1)), eqNow, eqNow, eqNow, H', ⟨by have := HJ3.out; have := HK2.out; omega⟩, ⟨belPut⟩⟩
     replace H := itE H
     rcases H with ⟨-, c37b0, c37b1, H⟩ | ⟨c37, c37b0, c37b1, H⟩
     ·obtain rfl := Option.some.inj H
      obtain ⟨ad104, rfl, hx104_0, hx104_1, hx104_2, hx104_3, p104, q104⟩ := atU_T57 HR0 HB x9_2
      go_wp2_with (first | ((with_reducible refine gate_dst (N := 10) rfl ?_); refine boxEv (N := 10) #[.int .i64 0, .int .i64 0, .int .i64 0, .int .i64 0] 57 ?_; intro gb105 hg w38 hbox hb; have BK105 := Aside0.mk hbox; have GW105 := gwN HB hg; have GE105 := GW105; replace HB := hbD HB hb; clear hb hbox hg; obtain ⟨hcz39_0, hcz39_1, hcz39_2, hcz39_3, hfz39_0, hfz39_1, hfz39_2, hfz39_3⟩ := bcf4 (W := w38) BK105))
      go_ret
      exact ⟨eqEnd, belPut⟩
     have H' := Aside0.mk H
     clear H
     obtain ⟨ad104, rfl, hx104_0, hx104_1, hx104_2, hx104_3, p104, q104⟩ := atU_T57 HR0 HB x9_2
     go_wp2_with (first | ((with_reducible refine gate_dst (N := 10) rfl ?_); refine boxEv (N := 10) #[.int .i64 0, .int .i64 0, .int .i64 0, .int .i64 0] 57 ?_; intro gb105 hg w40 hbox hb; have BK105 := Aside0.mk hbox; have GW105 := gwN HB hg; have GE105 := GW105; replace HB := hbD HB hb; clear hb hbox hg; obtain ⟨hcz41_0, hcz41_1, hcz41_2, hcz41_3, hfz41_0, hfz41_1, hfz41_2, hfz41_3⟩ := bcf4 (W := w40) BK105))
     go_roundg k2
     case measure => have := HJ3.out; have := HK2.out; omega
     case rel => exact ⟨(wrap64 (((rd_T57 l0 x9_2).f0) + ((rd_T57 l0 x9_2).f1))), (wrap64 (((rd_T57 l0 x9_2).f2) + ((rd_T57 l0 x9_2).f3))), (wrap64 (x9_2 + 1)), eqNow, eqNow, eqNow, H', ⟨by have := HJ3.out; have := HK2.out; omega⟩, ⟨belPut⟩⟩
end Go.Proofs.Ytkoagpnoaibdjaa.Pp
