import Derived.Test.YtecjoofjiockkaaGreatDoorESt
import Derived.Test.YtecjoofjiockkaaGreatDoorPp0
import Derived.Test.YtecjoofjiockkaaGreatDoorPp10
namespace Go.Proofs.YtecjoofjiockkaaGreatDoor.Pp
open Go.RowKit Go.Proofs.YtecjoofjiockkaaGreatDoor.Ext Go.Proofs.YtecjoofjiockkaaGreatDoorW.PrintWords Go.Proofs.YtecjoofjiockkaaGreatDoorW.PrintLast Go.Proofs.YtecjoofjiockkaaGreatDoorW.PrintMore
attribute [local go_sem] max2_int min2_int max_two min_two max_three min_three max_four min_four   -- for this text's walks alone
set_option linter.unusedVariables false
set_option linter.unusedSimpArgs false
def selvagelaw10_sameAll.l0 : Nat → List (S29) → List (S29) → Int → Option (Bool)
 | 0, _, _, _ => none
 | k + 1, x0, x1, x5 => if x5 < (x0.length : Int) then (if 0 ≤ x5 then (if x5 < (x1.length : Int) then ((selvagelaw10_same.f k ((rd_T29 x0 x5).f0) ((rd_T29 x0 x5).f1) ((rd_T29 x0 x5).f2) ((rd_T29 x0 x5).f3) ((rd_T29 x0 x5).f4) ((rd_T29 x0 x5).f5) ((rd_T29 x1 x5).f0) ((rd_T29 x1 x5).f1) ((rd_T29 x1 x5).f2) ((rd_T29 x1 x5).f3) ((rd_T29 x1 x5).f4) ((rd_T29 x1 x5).f5)).bind fun t232 => (if t232 = true then (selvagelaw10_sameAll.l0 k x0 x1 (wrap64 (x5 + 1))) else (none))) else (none)) else (none)) else (some true)
def selvagelaw10_sameAll.f (k : Nat) (l0 : List (S29)) (l1 : List (S29)) : Option (Bool) := if (l0.length : Int) = (l1.length : Int) then (selvagelaw10_sameAll.l0 k l0 l1 0) else (none)
def selvagelaw10_sameAll.T6 : Bool × List (List Nat × List Nat) := (true, [([], []), ([], []), ([0, 1], [0, 1]), ([2], [2]), ([], []), ([], []), ([4, 5], [4, 5]), ([6], [6]), ([3, 7], [3, 7]), ([8], [8])])
def selvagelaw10_sameAll.B6 : List Nat := [0, 0, 3, 7, 0, 0, 48, 112, 255, 511]
theorem selvagelaw10_sameAll.tab6 : rtab .any (opsOf Tryz.f17 6) = selvagelaw10_sameAll.T6 := by kernel_rfl
theorem selvagelaw10_sameAll.bits6 : waitsOk selvagelaw10_sameAll.T6.2 selvagelaw10_sameAll.B6 = true := by kernel_rfl
set_option maxHeartbeats 8000000 in
set_option maxRecDepth 100000 in
theorem selvagelaw10_sameAll.calls (k : Nat) (A0 : Option Addr) (c0 : Nat) (l0 : List (S29)) (A1 : Option Addr) (c1 : Nat) (l1 : List (S29)) (r : Bool) (w : World) (hr0 : Kd.C k29 w A0 l0.length l0) (hc0 : l0.length ≤ c0) (hr1 : Kd.C k29 w A1 l1.length l1) (hc1 : l1.length ≤ c1) (h : selvagelaw10_sameAll.f k l0 l1 = some r) :
  Calls Tryz.prog 17 #[.slice A0 l0.length c0, .slice A1 l1.length c1] w fun e w' => e = .returned (.bool r) ∧ Below w.heap.size w w' := by
 have hu29 := Tryz.underlying29
 have HR0 := Aside0.mk hr0
 have HC0 := Aside0.mk hc0
 clear hr0 hc0
 have HR1 := Aside0.mk hr1
 have HC1 := Aside0.mk hc1
 clear hr1 hc1
 have HB := Aside0.mk (Below.refl w.heap.size w)
 have H := h
 clear h
 unfold selvagelaw10_sameAll.f at H
 replace H := itEn H
 rcases H with ⟨_, _, _, H⟩ | ⟨c3, c3b0, c3b1, H⟩
 ·cases H
 have c3b2 : (l0.length == l1.length) = true := by first | simpa using c3 | (simp at c3 ⊢; omega)
 clear c3
 have H' := Aside0.mk H
 clear H
 go_enter Tryz.func17, Tryz.ntmps17
 go_wp2
 go_loopg [5] k (fun kq v5 w' => ∃ (x5_1 : Int), v5 = .int .i64 x5_1 ∧ Aside0 (selvagelaw10_sameAll.l0 kq l0 l1 x5_1 = some r) ∧ Aside0 (kq ≤ k) ∧ Aside0 (Below w.heap.size w w'))
 case atStart => exact ⟨(0), eqNow, H', ⟨Nat.le_refl _⟩, ⟨belNow⟩⟩
 case round =>
  clear H'
  try clear c1
  try clear c3
  try clear c3b0
  try clear c3b1
  try clear c3b2
  obtain ⟨x5_1, rfl, HA, HK1, HB⟩ := hrel
  cases gk with
  | zero => exact absurd HA.out (by simp [selvagelaw10_sameAll.l0])
  | succ k1 =>
   have H := HA.out
   clear HA
   simp only [selvagelaw10_sameAll.l0] at H
   replace H := itLn H
   rcases H with ⟨-, c4b0, H⟩ | ⟨-, c4b0, H⟩
   ·obtain rfl := Option.some.inj H
    go_wp2
    go_ret
    exact ⟨eqEnd, belNow⟩
   replace H := itLn H
   rcases H with ⟨_, _, H⟩ | ⟨-, c5b0, H⟩
   ·cases H
   replace H := itLn H
   rcases H with ⟨_, _, H⟩ | ⟨-, c6b0, H⟩
   ·cases H
   replace H := bdS H
   obtain ⟨t232, A7, H⟩ := H
   by_cases c8 : t232 = true
   rotate_left
   ·rw [if_neg c8] at H
    exact absurd H (by simp)
   subst c8
   have H1 : (selvagelaw10_sameAll.l0 k1 l0 l1 (wrap64 (x5_1 + 1))) = some r := by rw [if_pos rfl] at H; exact H
   clear H
   have H := H1
   clear H1
   have H' := Aside0.mk H
   clear H
   try go_wp2
   replace HB := Aside0.mk (below_drew1 HB.out)
   have p230 : 0 ≤ (x5_1 : Int) := ofDec
   have q230 : x5_1 < (l0.length : Int) := ofDec
   obtain ⟨ad230, A230_5, c230_5, e230, hx230_0, hx230_1, hx230_2, hx230_3, hx230_4, hx230_5, hl230_5, hi230_5⟩ := at_T29 HR0.out x5_1 p230 q230
   have hw230_5 := hx230_5
   have hw230_4 := hx230_4
   have hw230_3 := hx230_3
   have hw230_2 := hx230_2
   have hw230_1 := hx230_1
   have hw230_0 := hx230_0
   cases e230
   replace hx230_0 := cUp HB.out hx230_0
   replace hx230_1 := cUp HB.out hx230_1
   replace hx230_2 := cUp HB.out hx230_2
   replace hx230_3 := cUp HB.out hx230_3
   replace hx230_4 := cUp HB.out hx230_4
   replace hx230_5 := cUp HB.out hx230_5
   have HR230_5 := Aside0.mk hi230_5
   have HC230_5 := Aside0.mk hl230_5
   clear hi230_5 hl230_5
   replace p230 := eq_true p230
   replace q230 := eq_true q230
   have p231 : 0 ≤ (x5_1 : Int) := ofDec
   have q231 : x5_1 < (l1.length : Int) := ofDec
   obtain ⟨ad231, A231_5, c231_5, e231, hx231_0, hx231_1, hx231_2, hx231_3, hx231_4, hx231_5, hl231_5, hi231_5⟩ := at_T29 HR1.out x5_1 p231 q231
   have hw231_5 := hx231_5
   have hw231_4 := hx231_4
   have hw231_3 := hx231_3
   have hw231_2 := hx231_2
   have hw231_1 := hx231_1
   have hw231_0 := hx231_0
   cases e231
   replace hx231_0 := cUp HB.out hx231_0
   replace hx231_1 := cUp HB.out hx231_1
   replace hx231_2 := cUp HB.out hx231_2
   replace hx231_3 := cUp HB.out hx231_3
   replace hx231_4 := cUp HB.out hx231_4
   replace hx231_5 := cUp HB.out hx231_5
   have HR231_5 := Aside0.mk hi231_5
   have HC231_5 := Aside0.mk hl231_5
   clear hi231_5 hl231_5
   replace p231 := eq_true p231
   replace q231 := eq_true q231
   refine start_ (n := 10) (S := fun w' => w'.cell? (ad230.add ((x5_1).toNat * 6)) = some (.int .i64 ((rd_T29 l0 x5_1).f0)) ∧ w'.cell? ⟨(ad230.add ((x5_1).toNat * 6)).block, (ad230.add ((x5_1).toNat * 6)).off + 1, none⟩ = some (.int .i64 ((rd_T29 l0 x5_1).f1)) ∧ w'.cell? ⟨(ad230.add ((x5_1).toNat * 6)).block, (ad230.add ((x5_1).toNat * 6)).off + 2, none⟩ = some (.int .i64 ((rd_T29 l0 x5_1).f2)) ∧ w'.cell? ⟨(ad230.add ((x5_1).toNat * 6)).block, (ad230.add ((x5_1).toNat * 6)).off + 3, none⟩ = some (.int .i64 ((rd_T29 l0 x5_1).f3)) ∧ w'.cell? ⟨(ad230.add ((x5_1).toNat * 6)).block, (ad230.add ((x5_1).toNat * 6)).off + 4, none⟩ = some (.string ((rd_T29 l0 x5_1).f4)) ∧ w'.cell? ⟨(ad230.add ((x5_1).toNat * 6)).block, (ad230.add ((x5_1).toNat * 6)).off + 5, none⟩ = some (.slice A230_5 ((rd_T29 l0 x5_1).f5).length c230_5) ∧ w'.cell? (ad231.add ((x5_1).toNat * 6)) = some (.int .i64 ((rd_T29 l1 x5_1).f0)) ∧ w'.cell? ⟨(ad231.add ((x5_1).toNat * 6)).block, (ad231.add ((x5_1).toNat * 6)).off + 1, none⟩ = some (.int .i64 ((rd_T29 l1 x5_1).f1)) ∧ w'.cell? ⟨(ad231.add ((x5_1).toNat * 6)).block, (ad231.add ((x5_1).toNat * 6)).off + 2, none⟩ = some (.int .i64 ((rd_T29 l1 x5_1).f2)) ∧ w'.cell? ⟨(ad231.add ((x5_1).toNat * 6)).block, (ad231.add ((x5_1).toNat * 6)).off + 3, none⟩ = some (.int .i64 ((rd_T29 l1 x5_1).f3)) ∧ w'.cell? ⟨(ad231.add ((x5_1).toNat * 6)).block, (ad231.add ((x5_1).toNat * 6)).off + 4, none⟩ = some (.string ((rd_T29 l1 x5_1).f4)) ∧ w'.cell? ⟨(ad231.add ((x5_1).toNat * 6)).block, (ad231.add ((x5_1).toNat * 6)).off + 5, none⟩ = some (.slice A231_5 ((rd_T29 l1 x5_1).f5).length c231_5)) (ds := []) #[false, false, false, false, false, false, false, false, false, false] (by kernel_rfl) rfl rfl ⟨(cUp HB.out hw230_0), (cUp HB.out hw230_1), (cUp HB.out hw230_2), (cUp HB.out hw230_3), (cUp HB.out hw230_4), (cUp HB.out hw230_5), (cUp HB.out hw231_0), (cUp HB.out hw231_1), (cUp HB.out hw231_2), (cUp HB.out hw231_3), (cUp HB.out hw231_4), (cUp HB.out hw231_5)⟩ (fun hHeld => ?_); refine with_tabW selvagelaw10_sameAll.tab6 selvagelaw10_sameAll.bits6 (fun HT_ HW_ => ?_)
   generalize wr.drew = w9 at HB HR230_5 HR231_5 hx230_0 hx230_1 hx230_2 hx230_3 hx230_4 hx230_5 hx231_0 hx231_1 hx231_2 hx231_3 hx231_4 hx231_5 hHeld ⊢
   refine pureT 0 ?_
   refine pureT 1 ?_
   refine pureT 2 ?_
   refine pureT 4 ?_
   refine pureT 5 ?_
   refine pureT 6 ?_
   refine takeT 3 hHeld ?_
   refine takeT 7 hHeld ?_
   refine one_ (i := 8) (N := some 25) #[true, true, true, true, true, true, true, true, true, false] rfl rfl (one_of HT_.out (by kernel_rfl)) (by decide) (fun K hK => ?_)
   refine goes_ Tryz.func28 (by kernel_rfl) rfl #[.agg #[.int .i64 ((rd_T29 l0 x5_1).f0), .int .i64 ((rd_T29 l0 x5_1).f1), .int .i64 ((rd_T29 l0 x5_1).f2), .int .i64 ((rd_T29 l0 x5_1).f3), .string ((rd_T29 l0 x5_1).f4), .slice A230_5 ((rd_T29 l0 x5_1).f5).length c230_5], .agg #[.int .i64 ((rd_T29 l1 x5_1).f0), .int .i64 ((rd_T29 l1 x5_1).f1), .int .i64 ((rd_T29 l1 x5_1).f2), .int .i64 ((rd_T29 l1 x5_1).f3), .string ((rd_T29 l1 x5_1).f4), .slice A231_5 ((rd_T29 l1 x5_1).f5).length c231_5]] (by rfl) rfl rfl argsOk ?_
   with_reducible refine (selvagelaw10_same.calls k1 ((rd_T29 l0 x5_1).f0) ((rd_T29 l0 x5_1).f1) ((rd_T29 l0 x5_1).f2) ((rd_T29 l0 x5_1).f3) ((rd_T29 l0 x5_1).f4) _ _ ((rd_T29 l0 x5_1).f5) ((rd_T29 l1 x5_1).f0) ((rd_T29 l1 x5_1).f1) ((rd_T29 l1 x5_1).f2) ((rd_T29 l1 x5_1).f3) ((rd_T29 l1 x5_1).f4) _ _ ((rd_T29 l1 x5_1).f5) true _ ?side1 ?side2 ?side3 ?side4 A7.out).mono ?_
   (case side1 => exact kcU HR230_5 HB)
   (case side2 => exact HC230_5.out)
   (case side3 => exact kcU HR231_5 HB)
   (case side4 => exact HC231_5.out)
   rintro e w10 ⟨rfl, hb⟩
   refine ⟨_, rfl, ?_⟩
   replace HB := hbD HB hb
   (try clear hb)
   (try clear hb2)
   (try clear hk)
   (try clear hi)
   refine hK.out _ _ ⟨(cUp HB.out hw230_0), (cUp HB.out hw230_1), (cUp HB.out hw230_2), (cUp HB.out hw230_3), (cUp HB.out hw230_4), (cUp HB.out hw230_5), (cUp HB.out hw231_0), (cUp HB.out hw231_1), (cUp HB.out hw231_2), (cUp HB.out hw231_3), (cUp HB.out hw231_4), (cUp HB.out hw231_5)⟩ (fun hHeld => ?_)
   clear hK K
   refine norm_ (a' := ?_) ?_ ?_
   rotate_left
   ·show Act.put _ (some 25) _ = _
    simp only [Act.put, List.setIfInBounds_toArray, List.set_cons_zero, List.set_cons_succ, i64_w, i32_w]
    rfl
   refine pureT 9 ?_
   refine done_ (done_of HT_.out (by kernel_rfl)) ?_
   try go_wp2
   go_roundg k1
   case measure => have := HK1.out; omega
   case rel => exact ⟨(wrap64 (x5_1 + 1)), eqNow, H', ⟨by have := HK1.out; omega⟩, ⟨belNow⟩⟩
def lines_Valid.l0 : Nat → List ByteArray → List ByteArray → Int → Int → Option (Bool)
 | 0, _, _, _, _ => none
 | k + 1, x0, x6, x7, x8 => if x8 < x7 then (if 0 ≤ x8 then (if x8 < (x6.length : Int) then ((strings_IndexByte.f (rdOf ByteArray.empty x6 x8) 10).bind fun t234 => (if (rdOf ByteArray.empty x6 x8).toList = ([] : List UInt8) then (some false) else (if t234 ≥ 0 then (if t234 < (wrap64 (((rdOf ByteArray.empty x6 x8).size : Int) - 1)) then (some false) else (if t234 < 0 then (if x8 < (wrap64 ((x0.length : Int) - 1)) then (some false) else (lines_Valid.l0 k x0 x6 x7 (wrap64 (x8 + 1)))) else (lines_Valid.l0 k x0 x6 x7 (wrap64 (x8 + 1))))) else (if t234 < 0 then (if x8 < (wrap64 ((x0.length : Int) - 1)) then (some false) else (lines_Valid.l0 k x0 x6 x7 (wrap64 (x8 + 1)))) else (lines_Valid.l0 k x0 x6 x7 (wrap64 (x8 + 1))))))) else (none)) else (none)) else (some true)
def lines_Valid.f (k : Nat) (l0 : List ByteArray) : Option (Bool) := lines_Valid.l0 k l0 l0 (l0.length : Int) 0
theorem lines_Valid.mono_l : ∀ k, (∀ y0 y1 y2 y3, LeO (lines_Valid.l0 k y0 y1 y2 y3) (lines_Valid.l0 (k + 1) y0 y1 y2 y3))
 | 0 => fun _ _ _ _ r h => by simp [lines_Valid.l0] at h
 | k + 1 => by
  have ih0 := lines_Valid.mono_l k
  ·intro y0 y1 y2 y3
   unfold lines_Valid.l0
   repeat' first
   | (with_reducible exact ih0 _ _ _ _)
   | (with_reducible exact LeO.refl _)
   | (with_reducible exact LeO.none _)
   | (with_reducible refine LeO.ite ?_ ?_)
   | (with_reducible refine LeO.bind ?_ (fun _ => ?_))
   | exact ih0 _ _ _ _
   | exact LeO.none _
   | refine LeO.ite ?_ ?_
   | refine LeO.bind ?_ (fun _ => ?_)
theorem lines_Valid.mono : ∀ a0 k, LeO (lines_Valid.f k a0) (lines_Valid.f (k + 1) a0) := by
 intro a0 k
 have ih0 := lines_Valid.mono_l k
 unfold lines_Valid.f
 repeat' first
   | (with_reducible exact ih0 _ _ _ _)
   | (with_reducible exact LeO.refl _)
   | (with_reducible exact LeO.none _)
   | (with_reducible refine LeO.ite ?_ ?_)
   | (with_reducible refine LeO.bind ?_ (fun _ => ?_))
   | exact ih0 _ _ _ _
   | exact LeO.none _
   | refine LeO.ite ?_ ?_
   | refine LeO.bind ?_ (fun _ => ?_)
set_option maxHeartbeats 8000000 in
set_option maxRecDepth 100000 in
theorem lines_Valid.calls (k : Nat) (A0 : Option Addr) (c0 : Nat) (l0 : List ByteArray) (r : Bool) (w : World) (hr0 : Kd.C Kd.string w A0 l0.length l0) (hc0 : l0.length ≤ c0) (h : lines_Valid.f k l0 = some r) :
  Calls Tryz.prog 50 #[.slice A0 l0.length c0] w fun e w' => e = .returned (.bool r) ∧ Drawn0 w w' := by
 have HR0 := Aside0.mk hr0
 have HC0 := Aside0.mk hc0
 clear hr0 hc0
 have H := h
 clear h
 unfold lines_Valid.f at H
 have H' := Aside0.mk H
 clear H
 go_enter Tryz.func50, Tryz.ntmps50
 go_wp2
 go_loopg [8] k (fun kq v8 w' => ∃ (x8_1 : Int), v8 = .int .i64 x8_1 ∧ Aside0 (lines_Valid.l0 kq l0 l0 (l0.length : Int) x8_1 = some r) ∧ Aside0 (kq ≤ k) ∧ Drawn0 w w')
 case atStart => exact ⟨(0), eqNow, H', ⟨Nat.le_refl _⟩, drawnNow⟩
 case round =>
  clear H'
  obtain ⟨x8_1, rfl, HA, HK1, ⟨m1, rfl⟩⟩ := hrel
  cases gk with
  | zero => exact absurd HA.out (by simp [lines_Valid.l0])
  | succ k1 =>
   have H := HA.out
   clear HA
   simp only [lines_Valid.l0] at H
   replace H := itLn H
   rcases H with ⟨-, c2b0, H⟩ | ⟨-, c2b0, H⟩
   ·obtain rfl := Option.some.inj H
    go_wp2
    go_ret
    exact ⟨eqFin, drawnNow⟩
   replace H := itLn H
   rcases H with ⟨_, _, H⟩ | ⟨-, c3b0, H⟩
   ·cases H
   replace H := itLn H
   rcases H with ⟨_, _, H⟩ | ⟨-, c4b0, H⟩
   ·cases H
   replace H := bdS H
   obtain ⟨t234, A5, H⟩ := H
   replace H := itE H
   rcases H with ⟨-, c6b0, c6b1, H⟩ | ⟨c6, c6b0, c6b1, H⟩
   ·obtain rfl := Option.some.inj H
    have p233 : 0 ≤ (x8_1 : Int) := ofDec
    have q233 : x8_1 < (l0.length : Int) := ofDec
    obtain ⟨ad233, e233, hx233_0⟩ := Kd.at_string HR0.out x8_1 p233 q233
    cases e233
    replace p233 := eq_true p233
    replace q233 := eq_true q233
    go_wp2_with (first | ((with_reducible refine gate_callee (f := 93) rfl ?_); refine goL (some 14) Tryz.func93 #[.string (rdOf ByteArray.empty l0 x8_1), .int .u8 10] ?_; (with_reducible refine (strings_IndexByte.calls (rdOf ByteArray.empty l0 x8_1) 10 t234 _ A5.out).mono ?_); rintro e w' ⟨rfl, ⟨nd, rfl⟩⟩; refine ⟨_, rfl, ?_⟩))
    go_ret
    exact ⟨eqFin, drawnNow⟩
   replace H := itHn H
   rcases H with ⟨-, c7b0, H⟩ | ⟨-, c7b0, H⟩
   ·replace H := itLn H
    rcases H with ⟨-, c11b0, H⟩ | ⟨-, c11b0, H⟩
    ·have H' := Aside0.mk H
     clear H
     have p233 : 0 ≤ (x8_1 : Int) := ofDec
     have q233 : x8_1 < (l0.length : Int) := ofDec
     obtain ⟨ad233, e233, hx233_0⟩ := Kd.at_string HR0.out x8_1 p233 q233
     cases e233
     replace p233 := eq_true p233
     replace q233 := eq_true q233
     go_wp2_with (first | ((with_reducible refine gate_callee (f := 93) rfl ?_); refine goL (some 14) Tryz.func93 #[.string (rdOf ByteArray.empty l0 x8_1), .int .u8 10] ?_; (with_reducible refine (strings_IndexByte.calls (rdOf ByteArray.empty l0 x8_1) 10 t234 _ A5.out).mono ?_); rintro e w' ⟨rfl, ⟨nd, rfl⟩⟩; refine ⟨_, rfl, ?_⟩))
     go_roundg k1
     case measure => have := HK1.out; omega
     case rel => exact ⟨(wrap64 (x8_1 + 1)), eqNow, H', ⟨by have := HK1.out; omega⟩, drawnNow⟩
    replace H := itL H
    rcases H with ⟨-, c12b0, H⟩ | ⟨-, c12b0, H⟩
    ·obtain rfl := Option.some.inj H
     have p233 : 0 ≤ (x8_1 : Int) := ofDec
     have q233 : x8_1 < (l0.length : Int) := ofDec
     obtain ⟨ad233, e233, hx233_0⟩ := Kd.at_string HR0.out x8_1 p233 q233
     cases e233
     replace p233 := eq_true p233
     replace q233 := eq_true q233
     go_wp2_with (first | ((with_reducible refine gate_callee (f := 93) rfl ?_); refine goL (some 14) Tryz.func93 #[.string (rdOf ByteArray.empty l0 x8_1), .int .u8 10] ?_; (with_reducible refine (strings_IndexByte.calls (rdOf ByteArray.empty l0 x8_1) 10 t234 _ A5.out).mono ?_); rintro e w' ⟨rfl, ⟨nd, rfl⟩⟩; refine ⟨_, rfl, ?_⟩))
     go_ret
     exact ⟨eqFin, drawnNow⟩
    have H' := Aside0.mk H
    clear H
    have p233 : 0 ≤ (x8_1 : Int) := ofDec
    have q233 : x8_1 < (l0.length : Int) := ofDec
    obtain ⟨ad233, e233, hx233_0⟩ := Kd.at_string HR0.out x8_1 p233 q233
    cases e233
    replace p233 := eq_true p233
    replace q233 := eq_true q233
    go_wp2_with (first | ((with_reducible refine gate_callee (f := 93) rfl ?_); refine goL (some 14) Tryz.func93 #[.string (rdOf ByteArray.empty l0 x8_1), .int .u8 10] ?_; (with_reducible refine (strings_IndexByte.calls (rdOf ByteArray.empty l0 x8_1) 10 t234 _ A5.out).mono ?_); rintro e w' ⟨rfl, ⟨nd, rfl⟩⟩; refine ⟨_, rfl, ?_⟩))
    go_roundg k1
    case measure => have := HK1.out; omega
    case rel => exact ⟨(wrap64 (x8_1 + 1)), eqNow, H', ⟨by have := HK1.out; omega⟩, drawnNow⟩
   replace H := itL H
   rcases H with ⟨-, c8b0, H⟩ | ⟨-, c8b0, H⟩
   ·obtain rfl := Option.some.inj H
    have p233 : 0 ≤ (x8_1 : Int) := ofDec
    have q233 : x8_1 < (l0.length : Int) := ofDec
    obtain ⟨ad233, e233, hx233_0⟩ := Kd.at_string HR0.out x8_1 p233 q233
    cases e233
    replace p233 := eq_true p233
    replace q233 := eq_true q233
    go_wp2_with (first | ((with_reducible refine gate_callee (f := 93) rfl ?_); refine goL (some 14) Tryz.func93 #[.string (rdOf ByteArray.empty l0 x8_1), .int .u8 10] ?_; (with_reducible refine (strings_IndexByte.calls (rdOf ByteArray.empty l0 x8_1) 10 t234 _ A5.out).mono ?_); rintro e w' ⟨rfl, ⟨nd, rfl⟩⟩; refine ⟨_, rfl, ?_⟩))
    go_ret
    exact ⟨eqFin, drawnNow⟩
   replace H := itLn H
   rcases H with ⟨-, c9b0, H⟩ | ⟨-, c9b0, H⟩
   ·have H' := Aside0.mk H
    clear H
    have p233 : 0 ≤ (x8_1 : Int) := ofDec
    have q233 : x8_1 < (l0.length : Int) := ofDec
    obtain ⟨ad233, e233, hx233_0⟩ := Kd.at_string HR0.out x8_1 p233 q233
    cases e233
    replace p233 := eq_true p233
    replace q233 := eq_true q233
    go_wp2_with (first | ((with_reducible refine gate_callee (f := 93) rfl ?_); refine goL (some 14) Tryz.func93 #[.string (rdOf ByteArray.empty l0 x8_1), .int .u8 10] ?_; (with_reducible refine (strings_IndexByte.calls (rdOf ByteArray.empty l0 x8_1) 10 t234 _ A5.out).mono ?_); rintro e w' ⟨rfl, ⟨nd, rfl⟩⟩; refine ⟨_, rfl, ?_⟩))
    go_roundg k1
    case measure => have := HK1.out; omega
    case rel => exact ⟨(wrap64 (x8_1 + 1)), eqNow, H', ⟨by have := HK1.out; omega⟩, drawnNow⟩
   replace H := itL H
   rcases H with ⟨-, c10b0, H⟩ | ⟨-, c10b0, H⟩
   ·obtain rfl := Option.some.inj H
    have p233 : 0 ≤ (x8_1 : Int) := ofDec
    have q233 : x8_1 < (l0.length : Int) := ofDec
    obtain ⟨ad233, e233, hx233_0⟩ := Kd.at_string HR0.out x8_1 p233 q233
    cases e233
    replace p233 := eq_true p233
    replace q233 := eq_true q233
    go_wp2_with (first | ((with_reducible refine gate_callee (f := 93) rfl ?_); refine goL (some 14) Tryz.func93 #[.string (rdOf ByteArray.empty l0 x8_1), .int .u8 10] ?_; (with_reducible refine (strings_IndexByte.calls (rdOf ByteArray.empty l0 x8_1) 10 t234 _ A5.out).mono ?_); rintro e w' ⟨rfl, ⟨nd, rfl⟩⟩; refine ⟨_, rfl, ?_⟩))
    go_ret
    exact ⟨eqFin, drawnNow⟩
   have H' := Aside0.mk H
   clear H
   have p233 : 0 ≤ (x8_1 : Int) := ofDec
   have q233 : x8_1 < (l0.length : Int) := ofDec
   obtain ⟨ad233, e233, hx233_0⟩ := Kd.at_string HR0.out x8_1 p233 q233
   cases e233
   replace p233 := eq_true p233
   replace q233 := eq_true q233
   go_wp2_with (first | ((with_reducible refine gate_callee (f := 93) rfl ?_); refine goL (some 14) Tryz.func93 #[.string (rdOf ByteArray.empty l0 x8_1), .int .u8 10] ?_; (with_reducible refine (strings_IndexByte.calls (rdOf ByteArray.empty l0 x8_1) 10 t234 _ A5.out).mono ?_); rintro e w' ⟨rfl, ⟨nd, rfl⟩⟩; refine ⟨_, rfl, ?_⟩))
   go_roundg k1
   case measure => have := HK1.out; omega
   case rel => exact ⟨(wrap64 (x8_1 + 1)), eqNow, H', ⟨by have := HK1.out; omega⟩, drawnNow⟩
end Go.Proofs.YtecjoofjiockkaaGreatDoor.Pp
