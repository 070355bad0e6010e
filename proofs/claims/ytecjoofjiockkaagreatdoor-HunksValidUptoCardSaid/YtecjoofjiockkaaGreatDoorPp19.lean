import Derived.Test.YtecjoofjiockkaaGreatDoorESr
import Derived.Test.YtecjoofjiockkaaGreatDoorPp0
import Derived.Test.YtecjoofjiockkaaGreatDoorPp4
import Derived.Test.YtecjoofjiockkaaGreatDoorPp6
import Derived.Test.YtecjoofjiockkaaGreatDoorPp7
import Derived.Test.YtecjoofjiockkaaGreatDoorPp8
import Derived.Test.YtecjoofjiockkaaGreatDoorPp9
import Derived.Test.YtecjoofjiockkaaGreatDoorPp11
import Derived.Test.YtecjoofjiockkaaGreatDoorPp18
namespace Go.Proofs.YtecjoofjiockkaaGreatDoor.Pp
open Go.RowKit Go.Proofs.YtecjoofjiockkaaGreatDoor.Ext Go.Proofs.YtecjoofjiockkaaGreatDoorW.PrintWords Go.Proofs.YtecjoofjiockkaaGreatDoorW.PrintLast Go.Proofs.YtecjoofjiockkaaGreatDoorW.PrintMore
attribute [local go_sem] max2_int min2_int max_two min_two max_three min_three max_four min_four   -- for this text's walks alone
set_option linter.unusedVariables false
set_option linter.unusedSimpArgs false
def selvagelaw10_HunksValid.l0 : Nat → List (S29) → Int → Option (Bool)
 | 0, _, _ => none
 | k + 1, x0, x3 => if x3 < (x0.length : Int) then (if 0 ≤ x3 then ((hunks_Valid.f ((rd_T29 x0 x3).f0) ((rd_T29 x0 x3).f1) ((rd_T29 x0 x3).f2) ((rd_T29 x0 x3).f3) ((rd_T29 x0 x3).f4) ((rd_T29 x0 x3).f5)).bind fun t374 => ((selvagelaw10_num.f t374).bind fun t375 => ((selvageref10_Valid.f k ((rd_T29 x0 x3).f0) ((rd_T29 x0 x3).f1) ((rd_T29 x0 x3).f2) ((rd_T29 x0 x3).f3) ((rd_T29 x0 x3).f4) ((rd_T29 x0 x3).f5)).bind fun t377 => (if t375 = t377 then (selvagelaw10_HunksValid.l0 k x0 (wrap64 (x3 + 1))) else (none))))) else (none)) else ((selvagelaw10_twins.f k x0).bind fun t378 => ((hunks_Order.f k t378).bind fun t381 => ((selvagelaw10_num.f t381).bind fun t382 => ((selvageref10_Order.f k x0).bind fun t383 => (if t382 = t383 then ((selvagelaw10_sameAll.f k t378 x0).bind fun t384 => (if t384 = true then ((selvagelaw10_works.f k).bind fun t385 => (some t385)) else (none))) else (none))))))
def selvagelaw10_HunksValid.f (k : Nat) (l0 : List (S29)) : Option (Bool) := selvagelaw10_HunksValid.l0 k l0 0
def selvagelaw10_HunksValid.T4 : Bool × List (List Nat × List Nat) := (true, [([], []), ([], []), ([0, 1], [0, 1]), ([2], [2]), ([3], [3]), ([4, 4], [4]), ([], []), ([], []), ([6, 7], [6, 7]), ([8], [8]), ([9, 5], [9]), ([5, 10], [5, 10])])
def selvagelaw10_HunksValid.B4 : List Nat := [0, 0, 3, 7, 15, 31, 0, 0, 192, 448, 1023, 2047]
theorem selvagelaw10_HunksValid.tab4 : rtab .any (opsOf Tryz.f3 4) = selvagelaw10_HunksValid.T4 := by kernel_rfl
theorem selvagelaw10_HunksValid.bits4 : waitsOk selvagelaw10_HunksValid.T4.2 selvagelaw10_HunksValid.B4 = true := by kernel_rfl
set_option maxHeartbeats 8000000 in
set_option maxRecDepth 100000 in
theorem selvagelaw10_HunksValid.calls (k : Nat) (A0 : Option Addr) (c0 : Nat) (l0 : List (S29)) (r : Bool) (w : World) (hr0 : Kd.C k29 w A0 l0.length l0) (hc0 : l0.length ≤ c0) (hGL : Glob w) (h : selvagelaw10_HunksValid.f k l0 = some r) :
  Calls Tryz.prog 3 #[.slice A0 l0.length c0] w fun e w' => e = .returned (.bool r) ∧ Below w.heap.size w w' := by
 have hu29 := Tryz.underlying29
 have HR0 := Aside0.mk hr0
 have HC0 := Aside0.mk hc0
 clear hr0 hc0
 have HB := Aside0.mk (Below.refl w.heap.size w)
 have H : (selvagelaw10_HunksValid.l0 k l0 0) = some r := h
 clear h
 have H' := Aside0.mk H
 clear H
 go_enter Tryz.func3, Tryz.ntmps3
 go_wp2
 go_loopg [3] k (fun kq v3 w' => ∃ (x3_1 : Int), v3 = .int .i64 x3_1 ∧ Aside0 (selvagelaw10_HunksValid.l0 kq l0 x3_1 = some r) ∧ Aside0 (kq ≤ k) ∧ Aside0 (Below w.heap.size w w'))
 case atStart => exact ⟨(0), eqNow, H', ⟨Nat.le_refl _⟩, ⟨belNow⟩⟩
 case round =>
  clear H'
  obtain ⟨x3_1, rfl, HA, HK1, HB⟩ := hrel
  cases gk with
  | zero => exact absurd HA.out (by simp [selvagelaw10_HunksValid.l0])
  | succ k1 =>
   have H := HA.out
   clear HA
   simp only [selvagelaw10_HunksValid.l0] at H
   by_cases c2 : x3_1 < (l0.length : Int)
   rotate_left
   ·rw [if_neg c2] at H
    have c2b0 : decide (x3_1 < (l0.length : Int)) = false := decide_eq_false c2
    clear c2
    replace H := Option.bind_eq_some_iff.mp H
    obtain ⟨t378, A160, H⟩ := H
    replace H : ((hunks_Order.f k1 t378).bind fun t381 => ((selvagelaw10_num.f t381).bind fun t382 => ((selvageref10_Order.f k1 l0).bind fun t383 => (if t382 = t383 then ((selvagelaw10_sameAll.f k1 t378 l0).bind fun t384 => (if t384 = true then ((selvagelaw10_works.f k1).bind fun t385 => (some t385)) else (none))) else (none))))) = some r := H
    have A16 := Aside0.mk A160
    clear A160
    replace H := Option.bind_eq_some_iff.mp H
    obtain ⟨t381, A170, H⟩ := H
    replace H : ((selvagelaw10_num.f t381).bind fun t382 => ((selvageref10_Order.f k1 l0).bind fun t383 => (if t382 = t383 then ((selvagelaw10_sameAll.f k1 t378 l0).bind fun t384 => (if t384 = true then ((selvagelaw10_works.f k1).bind fun t385 => (some t385)) else (none))) else (none)))) = some r := H
    have A17 := Aside0.mk A170
    clear A170
    replace H := Option.bind_eq_some_iff.mp H
    obtain ⟨t382, A180, H⟩ := H
    replace H : ((selvageref10_Order.f k1 l0).bind fun t383 => (if t382 = t383 then ((selvagelaw10_sameAll.f k1 t378 l0).bind fun t384 => (if t384 = true then ((selvagelaw10_works.f k1).bind fun t385 => (some t385)) else (none))) else (none))) = some r := H
    have A18 := Aside0.mk A180
    clear A180
    replace H := Option.bind_eq_some_iff.mp H
    obtain ⟨t383, A190, H⟩ := H
    replace H : (if t382 = t383 then ((selvagelaw10_sameAll.f k1 t378 l0).bind fun t384 => (if t384 = true then ((selvagelaw10_works.f k1).bind fun t385 => (some t385)) else (none))) else (none)) = some r := H
    have A19 := Aside0.mk A190
    clear A190
    by_cases c20 : t382 = t383
    rotate_left
    ·rw [if_neg c20] at H
     exact absurd H (by simp)
    rw [if_pos c20] at H
    have c20b0 : (t382 == t383) = true := beq_iff_eq.mpr c20
    have c20b1 : (t382 != t383) = false := bne_eq_false_iff_eq.mpr c20
    clear c20
    replace H := Option.bind_eq_some_iff.mp H
    obtain ⟨t384, A210, H⟩ := H
    replace H : (if t384 = true then ((selvagelaw10_works.f k1).bind fun t385 => (some t385)) else (none)) = some r := H
    have A21 := Aside0.mk A210
    clear A210
    by_cases c22 : t384 = true
    rotate_left
    ·rw [if_neg c22] at H
     exact absurd H (by simp)
    subst c22
    have H1 : ((selvagelaw10_works.f k1).bind fun t385 => (some t385)) = some r := by rw [if_pos rfl] at H; exact H
    clear H
    have H := H1
    clear H1
    replace H := Option.bind_eq_some_iff.mp H
    obtain ⟨t385, A230, H⟩ := H
    replace H : (some t385) = some r := H
    have A23 := Aside0.mk A230
    clear A230
    obtain rfl := Option.some.inj H
    go_wp2_with (first | ((with_reducible refine gate_callee (f := 14) rfl ?_); refine goesL_ (some 24) rfl rfl Tryz.func14 (by kernel_rfl) rfl #[.slice A0 l0.length c0] rfl argsOk ?_; (with_reducible refine (selvagelaw10_twins.calls k1 _ _ l0 t378 _ ?side1 ?side2 A16.out).mono ?_); (case side1 => repeat (first | exact (Kd.C_below HR0.out HB.out) | (with_reducible refine Kd.C_alloc ?_ _) | (with_reducible refine Kd.C_drewN ?_ _) | (with_reducible refine Kd.C_drew ?_))); (case side2 => exact HC0.out); rintro e w24 ⟨v379, rfl, ho0, hb⟩; refine ⟨_, rfl, ?_⟩; have n0_ := Aside0.mk (Kd.S_lower ho0 (below_size belNow)); have n1_ := Aside0.mk (below_step belNow hb); clear HB; have HO380 := n0_; have HB := n1_; clear n0_ n1_; (try clear hb); (try clear hb2); (try clear hk); (try clear hi); (try clear ho0); obtain ⟨Ao25, co25, eo25⟩ := Kd.S_slice HO380.out; subst eo25) | ((with_reducible refine gate_callee (f := 15) rfl ?_); refine goesL_ (some 26) rfl rfl Tryz.func15 (by kernel_rfl) rfl #[.slice Ao25 t378.length co25] rfl argsOk ?_; (with_reducible refine (hunks_Order.calls k1 _ _ t378 t381 _ ?side1 ?side2 A17.out).mono ?_); (case side1 => repeat (first | exact (Kd.S_reads' HO380.out).2.2 | (with_reducible refine Kd.C_alloc ?_ _) | (with_reducible refine Kd.C_drewN ?_ _) | (with_reducible refine Kd.C_drew ?_))); (case side2 => exact (Kd.S_reads' HO380.out).2.1); rintro e w26 ⟨rfl, hb⟩; refine ⟨_, rfl, ?_⟩; have n0_ := Aside0.mk (Kd.S_below (by (with_reducible repeat (first | apply Kd.S_alloc | apply Kd.S_drewN | apply Kd.S_drew)); exact HO380.out) hb); have n1_ := Aside0.mk (below_step belNow hb); clear HO380 HB; have HO380 := n0_; have HB := n1_; clear n0_ n1_; (try clear hb); (try clear hb2); (try clear hk); (try clear hi); (try simp only [errW_none, errW_some]); have CA18 := fun W (hG_ : Glob W) => selvagelaw10_num.calls t381 t382 W hG_ A18.out; try simp only [errW_none, errW_some] at CA18) | (go_at_call 11; (with_reducible refine (CA18 _ ?side1).mono ?_); (case side1 => exact Glob.below hGL belNow); rintro e w27 ⟨rfl, hb⟩; have n0_ := Aside0.mk (Kd.S_below (by (with_reducible repeat (first | apply Kd.S_alloc | apply Kd.S_drewN | apply Kd.S_drew)); exact HO380.out) hb); have n1_ := Aside0.mk (below_step belNow hb); clear HO380 HB; have HO380 := n0_; have HB := n1_; clear n0_ n1_; (try clear hb); (try clear hb2); (try clear hk); (try clear hi)) | ((with_reducible refine gate_callee (f := 16) rfl ?_); refine goesL_ (some 29) rfl rfl Tryz.func16 (by kernel_rfl) rfl #[.slice A0 l0.length c0] rfl argsOk ?_; (with_reducible refine (selvageref10_Order.calls k1 _ _ l0 t383 _ ?side1 ?side2 A19.out).mono ?_); (case side1 => repeat (first | exact (Kd.C_below HR0.out HB.out) | (with_reducible refine Kd.C_alloc ?_ _) | (with_reducible refine Kd.C_drewN ?_ _) | (with_reducible refine Kd.C_drew ?_))); (case side2 => exact HC0.out); rintro e w28 ⟨rfl, hb⟩; refine ⟨_, rfl, ?_⟩; have n0_ := Aside0.mk (Kd.S_below (by (with_reducible repeat (first | apply Kd.S_alloc | apply Kd.S_drewN | apply Kd.S_drew)); exact HO380.out) hb); have n1_ := Aside0.mk (below_step belNow hb); clear HO380 HB; have HO380 := n0_; have HB := n1_; clear n0_ n1_; (try clear hb); (try clear hb2); (try clear hk); (try clear hi)) | (go_at_call 17; (with_reducible refine (selvagelaw10_sameAll.calls k1 _ _ t378 _ _ l0 true _ ?side1 ?side2 ?side3 ?side4 A21.out).mono ?_); (case side1 => repeat (first | exact (Kd.S_reads' HO380.out).2.2 | (with_reducible refine Kd.C_alloc ?_ _) | (with_reducible refine Kd.C_drewN ?_ _) | (with_reducible refine Kd.C_drew ?_))); (case side2 => exact (Kd.S_reads' HO380.out).2.1); (case side3 => repeat (first | exact (Kd.C_below HR0.out HB.out) | (with_reducible refine Kd.C_alloc ?_ _) | (with_reducible refine Kd.C_drewN ?_ _) | (with_reducible refine Kd.C_drew ?_))); (case side4 => exact HC0.out); rintro e w29 ⟨rfl, hb⟩; have n0_ := Aside0.mk (Kd.S_below (by (with_reducible repeat (first | apply Kd.S_alloc | apply Kd.S_drewN | apply Kd.S_drew)); exact HO380.out) hb); have n1_ := Aside0.mk (below_step belNow hb); clear HO380 HB; have HO380 := n0_; have HB := n1_; clear n0_ n1_; (try clear hb); (try clear hb2); (try clear hk); (try clear hi)) | (go_at_call 18; (with_reducible refine (selvagelaw10_works.calls k1  t385 _ ?side1 A23.out).mono ?_); (case side1 => exact Glob.below hGL belNow); rintro e w30 ⟨rfl, hb⟩; have n0_ := Aside0.mk (Kd.S_below (by (with_reducible repeat (first | apply Kd.S_alloc | apply Kd.S_drewN | apply Kd.S_drew)); exact HO380.out) hb); have n1_ := Aside0.mk (below_step belNow hb); clear HO380 HB; have HO380 := n0_; have HB := n1_; clear n0_ n1_; (try clear hb); (try clear hb2); (try clear hk); (try clear hi)))
    go_ret
    exact ⟨eqEnd, belNow⟩
   rw [if_pos c2] at H
   have c2b0 : decide (x3_1 < (l0.length : Int)) = true := decide_eq_true c2
   clear c2
   by_cases c3 : 0 ≤ x3_1
   rotate_left
   ·rw [if_neg c3] at H
    exact absurd H (by simp)
   rw [if_pos c3] at H
   have c3b0 : decide (0 ≤ x3_1) = true := decide_eq_true c3
   clear c3
   replace H := Option.bind_eq_some_iff.mp H
   obtain ⟨t374, A40, H⟩ := H
   replace H : ((selvagelaw10_num.f t374).bind fun t375 => ((selvageref10_Valid.f k1 ((rd_T29 l0 x3_1).f0) ((rd_T29 l0 x3_1).f1) ((rd_T29 l0 x3_1).f2) ((rd_T29 l0 x3_1).f3) ((rd_T29 l0 x3_1).f4) ((rd_T29 l0 x3_1).f5)).bind fun t377 => (if t375 = t377 then (selvagelaw10_HunksValid.l0 k1 l0 (wrap64 (x3_1 + 1))) else (none)))) = some r := H
   have A4 := Aside0.mk A40
   clear A40
   replace H := Option.bind_eq_some_iff.mp H
   obtain ⟨t375, A50, H⟩ := H
   replace H : ((selvageref10_Valid.f k1 ((rd_T29 l0 x3_1).f0) ((rd_T29 l0 x3_1).f1) ((rd_T29 l0 x3_1).f2) ((rd_T29 l0 x3_1).f3) ((rd_T29 l0 x3_1).f4) ((rd_T29 l0 x3_1).f5)).bind fun t377 => (if t375 = t377 then (selvagelaw10_HunksValid.l0 k1 l0 (wrap64 (x3_1 + 1))) else (none))) = some r := H
   have A5 := Aside0.mk A50
   clear A50
   replace H := Option.bind_eq_some_iff.mp H
   obtain ⟨t377, A60, H⟩ := H
   replace H : (if t375 = t377 then (selvagelaw10_HunksValid.l0 k1 l0 (wrap64 (x3_1 + 1))) else (none)) = some r := H
   have A6 := Aside0.mk A60
   clear A60
   by_cases c7 : t375 = t377
   rotate_left
   ·rw [if_neg c7] at H
    exact absurd H (by simp)
   rw [if_pos c7] at H
   have c7b0 : (t375 == t377) = true := beq_iff_eq.mpr c7
   have c7b1 : (t375 != t377) = false := bne_eq_false_iff_eq.mpr c7
   clear c7
   have H' := Aside0.mk H
   clear H
   try go_wp2
   have n0_ := Aside0.mk (below_drew1 HB.out)
   clear HB
   have HB := n0_
   clear n0_
   have p373 : 0 ≤ (x3_1 : Int) := ofDec
   have q373 : x3_1 < (l0.length : Int) := ofDec
   obtain ⟨ad373, A373_5, c373_5, e373, hx373_0, hx373_1, hx373_2, hx373_3, hx373_4, hx373_5, hl373_5, hi373_5⟩ := at_T29 HR0.out x3_1 p373 q373
   have hw373_5 := hx373_5
   have hw373_4 := hx373_4
   have hw373_3 := hx373_3
   have hw373_2 := hx373_2
   have hw373_1 := hx373_1
   have hw373_0 := hx373_0
   cases e373
   replace hx373_0 := cUp HB.out hx373_0
   replace hx373_1 := cUp HB.out hx373_1
   replace hx373_2 := cUp HB.out hx373_2
   replace hx373_3 := cUp HB.out hx373_3
   replace hx373_4 := cUp HB.out hx373_4
   replace hx373_5 := cUp HB.out hx373_5
   have HR373_5 := Aside0.mk hi373_5
   have HC373_5 := Aside0.mk hl373_5
   clear hi373_5 hl373_5
   replace p373 := eq_true p373
   replace q373 := eq_true q373
   have p376 : 0 ≤ (x3_1 : Int) := ofDec
   have q376 : x3_1 < (l0.length : Int) := ofDec
   obtain ⟨ad376, A376_5, c376_5, e376, hx376_0, hx376_1, hx376_2, hx376_3, hx376_4, hx376_5, hl376_5, hi376_5⟩ := at_T29 HR0.out x3_1 p376 q376
   have hw376_5 := hx376_5
   have hw376_4 := hx376_4
   have hw376_3 := hx376_3
   have hw376_2 := hx376_2
   have hw376_1 := hx376_1
   have hw376_0 := hx376_0
   obtain rfl : ad373 = ad376 := (by injection e376)
   replace hx376_0 := cUp HB.out hx376_0
   replace hx376_1 := cUp HB.out hx376_1
   replace hx376_2 := cUp HB.out hx376_2
   replace hx376_3 := cUp HB.out hx376_3
   replace hx376_4 := cUp HB.out hx376_4
   replace hx376_5 := cUp HB.out hx376_5
   have HR376_5 := Aside0.mk hi376_5
   have HC376_5 := Aside0.mk hl376_5
   clear hi376_5 hl376_5
   replace p376 := eq_true p376
   replace q376 := eq_true q376
   have ea_ := Option.some.inj (hx373_5.symm.trans hx376_5)
   injection ea_ with ea_ en_ ec_
   subst ea_
   subst ec_
   clear en_
   refine start_ (n := 12) (S := fun w' => w'.cell? (ad373.add ((x3_1).toNat * 6)) = some (.int .i64 ((rd_T29 l0 x3_1).f0)) ∧ w'.cell? ⟨(ad373.add ((x3_1).toNat * 6)).block, (ad373.add ((x3_1).toNat * 6)).off + 1, none⟩ = some (.int .i64 ((rd_T29 l0 x3_1).f1)) ∧ w'.cell? ⟨(ad373.add ((x3_1).toNat * 6)).block, (ad373.add ((x3_1).toNat * 6)).off + 2, none⟩ = some (.int .i64 ((rd_T29 l0 x3_1).f2)) ∧ w'.cell? ⟨(ad373.add ((x3_1).toNat * 6)).block, (ad373.add ((x3_1).toNat * 6)).off + 3, none⟩ = some (.int .i64 ((rd_T29 l0 x3_1).f3)) ∧ w'.cell? ⟨(ad373.add ((x3_1).toNat * 6)).block, (ad373.add ((x3_1).toNat * 6)).off + 4, none⟩ = some (.string ((rd_T29 l0 x3_1).f4)) ∧ w'.cell? ⟨(ad373.add ((x3_1).toNat * 6)).block, (ad373.add ((x3_1).toNat * 6)).off + 5, none⟩ = some (.slice A373_5 ((rd_T29 l0 x3_1).f5).length c373_5) ∧ w'.cell? (ad373.add ((x3_1).toNat * 6)) = some (.int .i64 ((rd_T29 l0 x3_1).f0)) ∧ w'.cell? ⟨(ad373.add ((x3_1).toNat * 6)).block, (ad373.add ((x3_1).toNat * 6)).off + 1, none⟩ = some (.int .i64 ((rd_T29 l0 x3_1).f1)) ∧ w'.cell? ⟨(ad373.add ((x3_1).toNat * 6)).block, (ad373.add ((x3_1).toNat * 6)).off + 2, none⟩ = some (.int .i64 ((rd_T29 l0 x3_1).f2)) ∧ w'.cell? ⟨(ad373.add ((x3_1).toNat * 6)).block, (ad373.add ((x3_1).toNat * 6)).off + 3, none⟩ = some (.int .i64 ((rd_T29 l0 x3_1).f3)) ∧ w'.cell? ⟨(ad373.add ((x3_1).toNat * 6)).block, (ad373.add ((x3_1).toNat * 6)).off + 4, none⟩ = some (.string ((rd_T29 l0 x3_1).f4)) ∧ w'.cell? ⟨(ad373.add ((x3_1).toNat * 6)).block, (ad373.add ((x3_1).toNat * 6)).off + 5, none⟩ = some (.slice A373_5 ((rd_T29 l0 x3_1).f5).length c373_5)) (ds := []) #[false, false, false, false, false, false, false, false, false, false, false, false] (by kernel_rfl) rfl rfl ⟨((HB.out.cell (World.block_lt_of_cell? w _ hw373_0)).trans hw373_0), ((HB.out.cell (World.block_lt_of_cell? w _ hw373_1)).trans hw373_1), ((HB.out.cell (World.block_lt_of_cell? w _ hw373_2)).trans hw373_2), ((HB.out.cell (World.block_lt_of_cell? w _ hw373_3)).trans hw373_3), ((HB.out.cell (World.block_lt_of_cell? w _ hw373_4)).trans hw373_4), ((HB.out.cell (World.block_lt_of_cell? w _ hw373_5)).trans hw373_5), ((HB.out.cell (World.block_lt_of_cell? w _ hw376_0)).trans hw376_0), ((HB.out.cell (World.block_lt_of_cell? w _ hw376_1)).trans hw376_1), ((HB.out.cell (World.block_lt_of_cell? w _ hw376_2)).trans hw376_2), ((HB.out.cell (World.block_lt_of_cell? w _ hw376_3)).trans hw376_3), ((HB.out.cell (World.block_lt_of_cell? w _ hw376_4)).trans hw376_4), ((HB.out.cell (World.block_lt_of_cell? w _ hw376_5)).trans hw376_5)⟩ (fun hHeld => ?_); refine with_tabW selvagelaw10_HunksValid.tab4 selvagelaw10_HunksValid.bits4 (fun HT_ HW_ => ?_)
   generalize wr.drew = w8 at HB HR373_5 HR376_5 hx373_0 hx373_1 hx373_2 hx373_3 hx373_4 hx373_5 hx376_0 hx376_1 hx376_2 hx376_3 hx376_4 hx376_5 hHeld ⊢
   refine pureS (i := 0) (N := some 11) (any_of HT_.out (by kernel_rfl)) ?_
   refine pureS (i := 1) (N := some 12) (any_of HT_.out (by kernel_rfl)) ?_
   refine pureS (i := 2) (N := some 13) (any_of HT_.out (by kernel_rfl)) ?_
   refine pureS (i := 6) (N := some 17) (any_of HT_.out (by kernel_rfl)) ?_
   refine pureS (i := 7) (N := some 18) (any_of HT_.out (by kernel_rfl)) ?_
   refine pureS (i := 8) (N := some 19) (any_of HT_.out (by kernel_rfl)) ?_
   refine takeS (i := 3) (N := some 14) rfl (take_ofW HT_.out HW_.out (by kernel_rfl)) (by rintro w' ⟨s0, s1, s2, s3, s4, s5, s6, s7, s8, s9, s10, s11⟩; go_simp; with_reducible rfl) hHeld ?_
   refine takeS (i := 9) (N := some 20) rfl (take_ofW HT_.out HW_.out (by kernel_rfl)) (by rintro w' ⟨s0, s1, s2, s3, s4, s5, s6, s7, s8, s9, s10, s11⟩; go_simp; with_reducible rfl) hHeld ?_
   refine one_ (i := 4) (N := some 15) #[true, true, true, true, true, false, true, true, true, true, false, false] rfl rfl (one_of HT_.out (by kernel_rfl)) (by decide) (fun K hK => ?_)
   refine goes_ Tryz.func12 (by kernel_rfl) rfl #[.agg #[.int .i64 ((rd_T29 l0 x3_1).f0), .int .i64 ((rd_T29 l0 x3_1).f1), .int .i64 ((rd_T29 l0 x3_1).f2), .int .i64 ((rd_T29 l0 x3_1).f3), .string ((rd_T29 l0 x3_1).f4), .slice A373_5 ((rd_T29 l0 x3_1).f5).length c373_5]] (by rfl) rfl rfl argsOk ?_
   with_reducible refine (hunks_Valid.calls ((rd_T29 l0 x3_1).f0) ((rd_T29 l0 x3_1).f1) ((rd_T29 l0 x3_1).f2) ((rd_T29 l0 x3_1).f3) ((rd_T29 l0 x3_1).f4) _ _ ((rd_T29 l0 x3_1).f5) t374 _ ?side1 ?side2 A4.out).mono ?_
   (case side1 => repeat (first | exact (Kd.C_below HR373_5.out HB.out) | (with_reducible refine Kd.C_alloc ?_ _) | (with_reducible refine Kd.C_drewN ?_ _) | (with_reducible refine Kd.C_drew ?_)))
   (case side2 => exact HC373_5.out)
   rintro e w9 ⟨rfl, hb⟩
   refine ⟨_, rfl, ?_⟩
   have n0_ := Aside0.mk (below_step belNow hb)
   clear HB
   have HB := n0_
   clear n0_
   (try clear hb)
   (try clear hb2)
   (try clear hk)
   (try clear hi)
   (try simp only [errW_none, errW_some])
   have CA5 := fun W (hG_ : Glob W) => selvagelaw10_num.calls t374 t375 W hG_ A5.out
   try simp only [errW_none, errW_some] at CA5
   refine hK.out _ _ ⟨((HB.out.cell (World.block_lt_of_cell? w _ hw373_0)).trans hw373_0), ((HB.out.cell (World.block_lt_of_cell? w _ hw373_1)).trans hw373_1), ((HB.out.cell (World.block_lt_of_cell? w _ hw373_2)).trans hw373_2), ((HB.out.cell (World.block_lt_of_cell? w _ hw373_3)).trans hw373_3), ((HB.out.cell (World.block_lt_of_cell? w _ hw373_4)).trans hw373_4), ((HB.out.cell (World.block_lt_of_cell? w _ hw373_5)).trans hw373_5), ((HB.out.cell (World.block_lt_of_cell? w _ hw376_0)).trans hw376_0), ((HB.out.cell (World.block_lt_of_cell? w _ hw376_1)).trans hw376_1), ((HB.out.cell (World.block_lt_of_cell? w _ hw376_2)).trans hw376_2), ((HB.out.cell (World.block_lt_of_cell? w _ hw376_3)).trans hw376_3), ((HB.out.cell (World.block_lt_of_cell? w _ hw376_4)).trans hw376_4), ((HB.out.cell (World.block_lt_of_cell? w _ hw376_5)).trans hw376_5)⟩ (fun hHeld => ?_)
   clear hK K
   refine norm_ (a' := ?_) ?_ ?_
   rotate_left
   ·show Act.put _ (some 15) _ = _
    simp only [Act.put, List.setIfInBounds_toArray, List.set_cons_zero, List.set_cons_succ, i64_w, i32_w]
    rfl
   refine one_ (i := 5) (N := some 16) #[true, true, true, true, true, true, true, true, true, true, false, false] rfl rfl (one_of HT_.out (by kernel_rfl)) (by decide) (fun K hK => ?_)
   refine goes_ Tryz.func11 (by kernel_rfl) rfl #[errW t374] (by rfl) rfl rfl argsOk ?_
   with_reducible refine (CA5 _ ?side1).mono ?_
   (case side1 => exact Glob.below hGL belNow)
   rintro e w10 ⟨rfl, hb⟩
   refine ⟨_, rfl, ?_⟩
   have n0_ := Aside0.mk (below_step belNow hb)
   clear HB
   have HB := n0_
   clear n0_
   (try clear hb)
   (try clear hb2)
   (try clear hk)
   (try clear hi)
   refine hK.out _ _ ⟨((HB.out.cell (World.block_lt_of_cell? w _ hw373_0)).trans hw373_0), ((HB.out.cell (World.block_lt_of_cell? w _ hw373_1)).trans hw373_1), ((HB.out.cell (World.block_lt_of_cell? w _ hw373_2)).trans hw373_2), ((HB.out.cell (World.block_lt_of_cell? w _ hw373_3)).trans hw373_3), ((HB.out.cell (World.block_lt_of_cell? w _ hw373_4)).trans hw373_4), ((HB.out.cell (World.block_lt_of_cell? w _ hw373_5)).trans hw373_5), ((HB.out.cell (World.block_lt_of_cell? w _ hw376_0)).trans hw376_0), ((HB.out.cell (World.block_lt_of_cell? w _ hw376_1)).trans hw376_1), ((HB.out.cell (World.block_lt_of_cell? w _ hw376_2)).trans hw376_2), ((HB.out.cell (World.block_lt_of_cell? w _ hw376_3)).trans hw376_3), ((HB.out.cell (World.block_lt_of_cell? w _ hw376_4)).trans hw376_4), ((HB.out.cell (World.block_lt_of_cell? w _ hw376_5)).trans hw376_5)⟩ (fun hHeld => ?_)
   clear hK K
   refine norm_ (a' := ?_) ?_ ?_
   rotate_left
   ·show Act.put _ (some 16) _ = _
    simp only [Act.put, List.setIfInBounds_toArray, List.set_cons_zero, List.set_cons_succ, i64_w, i32_w]
    rfl
   refine one_ (i := 10) (N := some 21) #[true, true, true, true, true, true, true, true, true, true, true, false] rfl rfl (one_of HT_.out (by kernel_rfl)) (by decide) (fun K hK => ?_)
   refine goes_ Tryz.func13 (by kernel_rfl) rfl #[.agg #[.int .i64 ((rd_T29 l0 x3_1).f0), .int .i64 ((rd_T29 l0 x3_1).f1), .int .i64 ((rd_T29 l0 x3_1).f2), .int .i64 ((rd_T29 l0 x3_1).f3), .string ((rd_T29 l0 x3_1).f4), .slice A373_5 ((rd_T29 l0 x3_1).f5).length c373_5]] (by rfl) rfl rfl argsOk ?_
   with_reducible refine (selvageref10_Valid.calls k1 ((rd_T29 l0 x3_1).f0) ((rd_T29 l0 x3_1).f1) ((rd_T29 l0 x3_1).f2) ((rd_T29 l0 x3_1).f3) ((rd_T29 l0 x3_1).f4) _ _ ((rd_T29 l0 x3_1).f5) t377 _ ?side1 ?side2 A6.out).mono ?_
   (case side1 => repeat (first | exact (Kd.C_below HR376_5.out HB.out) | (with_reducible refine Kd.C_alloc ?_ _) | (with_reducible refine Kd.C_drewN ?_ _) | (with_reducible refine Kd.C_drew ?_)))
   (case side2 => exact HC376_5.out)
   rintro e w11 ⟨rfl, hb⟩
   refine ⟨_, rfl, ?_⟩
   have n0_ := Aside0.mk (below_step belNow hb)
   clear HB
   have HB := n0_
   clear n0_
   (try clear hb)
   (try clear hb2)
   (try clear hk)
   (try clear hi)
   refine hK.out _ _ ⟨((HB.out.cell (World.block_lt_of_cell? w _ hw373_0)).trans hw373_0), ((HB.out.cell (World.block_lt_of_cell? w _ hw373_1)).trans hw373_1), ((HB.out.cell (World.block_lt_of_cell? w _ hw373_2)).trans hw373_2), ((HB.out.cell (World.block_lt_of_cell? w _ hw373_3)).trans hw373_3), ((HB.out.cell (World.block_lt_of_cell? w _ hw373_4)).trans hw373_4), ((HB.out.cell (World.block_lt_of_cell? w _ hw373_5)).trans hw373_5), ((HB.out.cell (World.block_lt_of_cell? w _ hw376_0)).trans hw376_0), ((HB.out.cell (World.block_lt_of_cell? w _ hw376_1)).trans hw376_1), ((HB.out.cell (World.block_lt_of_cell? w _ hw376_2)).trans hw376_2), ((HB.out.cell (World.block_lt_of_cell? w _ hw376_3)).trans hw376_3), ((HB.out.cell (World.block_lt_of_cell? w _ hw376_4)).trans hw376_4), ((HB.out.cell (World.block_lt_of_cell? w _ hw376_5)).trans hw376_5)⟩ (fun hHeld => ?_)
   clear hK K
   refine norm_ (a' := ?_) ?_ ?_
   rotate_left
   ·show Act.put _ (some 21) _ = _
    simp only [Act.put, List.setIfInBounds_toArray, List.set_cons_zero, List.set_cons_succ, i64_w, i32_w]
    rfl
   refine pureS (i := 11) (N := some 22) (any_of HT_.out (by kernel_rfl)) ?_
   refine done_ (done_of HT_.out (by kernel_rfl)) ?_
   try go_wp2
   go_roundg k1
   case measure => have := HK1.out; omega
   case rel => exact ⟨(wrap64 (x3_1 + 1)), eqNow, H', ⟨by have := HK1.out; omega⟩, ⟨belNow⟩⟩
end Go.Proofs.YtecjoofjiockkaaGreatDoor.Pp
