-- Printed by this session's pp.py over the kit's printer, out of the translation. Lean checks it.
import Derived.Test.YtmfanpibpmajnaaDoorESq
import Derived.Test.YtmfanpibpmajnaaDoorPp0
import Derived.Test.YtmfanpibpmajnaaDoorPp2
import Derived.Test.YtmfanpibpmajnaaDoorPp7
import Derived.Test.YtmfanpibpmajnaaDoorPp8
import Derived.Test.YtmfanpibpmajnaaDoorPp9
import Derived.Test.YtmfanpibpmajnaaDoorPp12
namespace Go.Proofs.YtmfanpibpmajnaaDoor.Pp
open Go.RowKit Go.Proofs.YtmfanpibpmajnaaDoor.Ext Go.Proofs.YtmfanpibpmajnaaDoorW.PrintWords Go.Proofs.YtmfanpibpmajnaaDoorW.PrintLast Go.Proofs.YtmfanpibpmajnaaDoorW.PrintMore
attribute [local go_sem] max2_int min2_int max_two min_two max_three min_three max_four min_four   -- for this text's walks alone
set_option linter.unusedVariables false
set_option linter.unusedSimpArgs false
def selvageref06_Fits.l0 : Nat → List Int → List Int → List (S55) → Int → Option (Int)
 | 0, _, _, _, _ => none
 | k + 1, x1, x2, x8, x9 => if x9 < (x8.length : Int) then (if 0 ≤ x9 then (if 0 ≤ ((rd_T55 x8 x9).f0) then (if ((rd_T55 x8 x9).f0) < (x1.length : Int) then (if 0 ≤ ((rd_T55 x8 x9).f1) then (if ((rd_T55 x8 x9).f1) < (x2.length : Int) then (if (rd x1 ((rd_T55 x8 x9).f0)) = (rd x2 ((rd_T55 x8 x9).f1)) then (selvageref06_Fits.l0 k x1 x2 x8 (wrap64 (x9 + 1))) else (some 61)) else (none)) else (none)) else (none)) else (none)) else (none)) else (some 0)
def selvageref06_Fits.f (k : Nat) (l0 : List (S43)) (l1 : List Int) (l2 : List Int) : Option (Int) := (selvageref06_Valid.f k l0 (l1.length : Int) (l2.length : Int)).bind fun t286 => (if t286 = 0 then ((selvageref06_pairs.f k l0 (l1.length : Int)).bind fun t287 => (selvageref06_Fits.l0 k l1 l2 t287 0)) else (some t286))
set_option maxHeartbeats 8000000 in
set_option maxRecDepth 100000 in
theorem selvageref06_Fits.calls (k : Nat) (A0 : Option Addr) (c0 : Nat) (l0 : List (S43)) (A1 : Option Addr) (c1 : Nat) (l1 : List Int) (A2 : Option Addr) (c2 : Nat) (l2 : List Int) (r : Int) (w : World) (hr0 : Kd.C k43 w A0 l0.length l0) (hc0 : l0.length ≤ c0) (hr1 : Kd.C (Kd.int .i64) w A1 l1.length l1) (hc1 : l1.length ≤ c1) (hr2 : Kd.C (Kd.int .i64) w A2 l2.length l2) (hc2 : l2.length ≤ c2) (h : selvageref06_Fits.f k l0 l1 l2 = some r) :
  Calls Tryd.prog 13 #[.slice A0 l0.length c0, .slice A1 l1.length c1, .slice A2 l2.length c2] w fun e w' => e = .returned (.int .i64 r) ∧ Below w.heap.size w w' := by
 have HR0 := Aside0.mk hr0
 have HC0 := Aside0.mk hc0
 clear hr0 hc0
 have HR1 := Aside0.mk hr1
 have HC1 := Aside0.mk hc1
 clear hr1 hc1
 have HR2 := Aside0.mk hr2
 have HC2 := Aside0.mk hc2
 clear hr2 hc2
 have HB := Aside0.mk (Below.refl w.heap.size w)
 have H : ((selvageref06_Valid.f k l0 (l1.length : Int) (l2.length : Int)).bind fun t286 => (if t286 = 0 then ((selvageref06_pairs.f k l0 (l1.length : Int)).bind fun t287 => (selvageref06_Fits.l0 k l1 l2 t287 0)) else (some t286))) = some r := h
 clear h
 replace H := Option.bind_eq_some_iff.mp H
 obtain ⟨t286, A40, H⟩ := H
 replace H : (if t286 = 0 then ((selvageref06_pairs.f k l0 (l1.length : Int)).bind fun t287 => (selvageref06_Fits.l0 k l1 l2 t287 0)) else (some t286)) = some r := H
 have A4 := Aside0.mk A40
 clear A40
 by_cases c5 : t286 = 0
 ·rw [if_pos c5] at H
  have c5b0 : (t286 == 0) = true := beq_iff_eq.mpr c5
  have c5b1 : (t286 != 0) = false := bne_eq_false_iff_eq.mpr c5
  clear c5
  replace H := Option.bind_eq_some_iff.mp H
  obtain ⟨t287, A60, H⟩ := H
  replace H : (selvageref06_Fits.l0 k l1 l2 t287 0) = some r := H
  have A6 := Aside0.mk A60
  clear A60
  have H' := Aside0.mk H
  clear H
  go_enter Tryd.func13, Tryd.ntmps13
  go_wp2_with (first | (go_at_call 23; (with_reducible refine (selvageref06_Valid.calls k _ _ l0 (l1.length : Int) (l2.length : Int) t286 _ ?side1 ?side2 A4.out).mono ?_); (case side1 => repeat (first | exact HR0.out | (with_reducible refine Kd.C_alloc ?_ _) | (with_reducible refine Kd.C_drewN ?_ _) | (with_reducible refine Kd.C_drew ?_))); (case side2 => exact HC0.out); rintro e w7 ⟨rfl, hb⟩; have n0_ := Aside0.mk (below_step belNow hb); clear HB; have HB := n0_; clear n0_; (try clear hb); (try clear hb2); (try clear hk); (try clear hi)) | (go_at_call 24; (with_reducible refine (selvageref06_pairs.calls k _ _ l0 (l1.length : Int) t287 _ ?side1 ?side2 A6.out).mono ?_); (case side1 => repeat (first | exact (Kd.C_below HR0.out HB.out) | (with_reducible refine Kd.C_alloc ?_ _) | (with_reducible refine Kd.C_drewN ?_ _) | (with_reducible refine Kd.C_drew ?_))); (case side2 => exact HC0.out); rintro e w8 ⟨v288, rfl, ho0, hb⟩; have n0_ := Aside0.mk (Kd.R_lower ho0 (below_size belNow)); have n1_ := Aside0.mk (below_step belNow hb); clear HB; have HO289 := n0_; have HB := n1_; clear n0_ n1_; (try clear hb); (try clear hb2); (try clear hk); (try clear hi); (try clear ho0)))
  repeat (go_quiet (first | (go_at_call 23; (with_reducible refine (selvageref06_Valid.calls k _ _ l0 (l1.length : Int) (l2.length : Int) t286 _ ?side1 ?side2 A4.out).mono ?_); (case side1 => repeat (first | exact HR0.out | (with_reducible refine Kd.C_alloc ?_ _) | (with_reducible refine Kd.C_drewN ?_ _) | (with_reducible refine Kd.C_drew ?_))); (case side2 => exact HC0.out); rintro e w7 ⟨rfl, hb⟩; have n0_ := Aside0.mk (below_step belNow hb); clear HB; have HB := n0_; clear n0_; (try clear hb); (try clear hb2); (try clear hk); (try clear hi)) | (go_at_call 24; (with_reducible refine (selvageref06_pairs.calls k _ _ l0 (l1.length : Int) t287 _ ?side1 ?side2 A6.out).mono ?_); (case side1 => repeat (first | exact (Kd.C_below HR0.out HB.out) | (with_reducible refine Kd.C_alloc ?_ _) | (with_reducible refine Kd.C_drewN ?_ _) | (with_reducible refine Kd.C_drew ?_))); (case side2 => exact HC0.out); rintro e w8 ⟨v288, rfl, ho0, hb⟩; have n0_ := Aside0.mk (Kd.R_lower ho0 (below_size belNow)); have n1_ := Aside0.mk (below_step belNow hb); clear HB; have HO289 := n0_; have HB := n1_; clear n0_ n1_; (try clear hb); (try clear hb2); (try clear hk); (try clear hi); (try clear ho0))); try go_wp2_with (first | (go_at_call 23; (with_reducible refine (selvageref06_Valid.calls k _ _ l0 (l1.length : Int) (l2.length : Int) t286 _ ?side1 ?side2 A4.out).mono ?_); (case side1 => repeat (first | exact HR0.out | (with_reducible refine Kd.C_alloc ?_ _) | (with_reducible refine Kd.C_drewN ?_ _) | (with_reducible refine Kd.C_drew ?_))); (case side2 => exact HC0.out); rintro e w7 ⟨rfl, hb⟩; have n0_ := Aside0.mk (below_step belNow hb); clear HB; have HB := n0_; clear n0_; (try clear hb); (try clear hb2); (try clear hk); (try clear hi)) | (go_at_call 24; (with_reducible refine (selvageref06_pairs.calls k _ _ l0 (l1.length : Int) t287 _ ?side1 ?side2 A6.out).mono ?_); (case side1 => repeat (first | exact (Kd.C_below HR0.out HB.out) | (with_reducible refine Kd.C_alloc ?_ _) | (with_reducible refine Kd.C_drewN ?_ _) | (with_reducible refine Kd.C_drew ?_))); (case side2 => exact HC0.out); rintro e w8 ⟨v288, rfl, ho0, hb⟩; have n0_ := Aside0.mk (Kd.R_lower ho0 (below_size belNow)); have n1_ := Aside0.mk (below_step belNow hb); clear HB; have HO289 := n0_; have HB := n1_; clear n0_ n1_; (try clear hb); (try clear hb2); (try clear hk); (try clear hi); (try clear ho0))))
  go_loopg [9] k (fun kq v9 w' => ∃ (x9_1 : Int), v9 = .int .i64 x9_1 ∧ Aside0 (selvageref06_Fits.l0 kq l1 l2 t287 x9_1 = some r) ∧ Aside0 (kq ≤ k) ∧ Aside0 (Kd.R k55 55 w' w.heap.size (fun _ => True) v288 t287) ∧ Aside0 (Below w.heap.size w w'))
  case atStart => exact ⟨(0), eqNow, H', ⟨Nat.le_refl _⟩, ⟨by (with_reducible repeat (first | apply Kd.R_alloc | apply Kd.R_drewN | apply Kd.R_drew)); (first | exact HO289.out | exact Kd.R_mono HO289.out (fun k_ h_ h2_ => h_ (h2_.trans ((fun (A_ : Option Addr) (n_ m_ c_ : Nat) => (show (Value.slice A_ n_ c_).ownBlock = (Value.slice A_ m_ c_).ownBlock by cases A_ <;> rfl)) _ _ _ _))))⟩, ⟨belNow⟩⟩
  case round =>
   clear H'
   try clear c1
   try clear c2
   try clear p2
   try clear c5
   try clear c5b0
   try clear c5b1
   obtain ⟨x9_1, rfl, HA, HK1, HO_8, HB⟩ := hrel
   cases gk with
   | zero => exact absurd HA.out (by simp [selvageref06_Fits.l0])
   | succ k1 =>
    have H := HA.out
    clear HA
    simp only [selvageref06_Fits.l0] at H
    by_cases c9 : x9_1 < (t287.length : Int)
    ·rw [if_pos c9] at H
     have c9b0 : decide (x9_1 < (t287.length : Int)) = true := decide_eq_true c9
     clear c9
     by_cases c10 : 0 ≤ x9_1
     ·rw [if_pos c10] at H
      have c10b0 : decide (0 ≤ x9_1) = true := decide_eq_true c10
      clear c10
      by_cases c11 : 0 ≤ ((rd_T55 t287 x9_1).f0)
      ·rw [if_pos c11] at H
       have c11b0 : decide (0 ≤ ((rd_T55 t287 x9_1).f0)) = true := decide_eq_true c11
       clear c11
       by_cases c12 : ((rd_T55 t287 x9_1).f0) < (l1.length : Int)
       ·rw [if_pos c12] at H
        have c12b0 : decide (((rd_T55 t287 x9_1).f0) < (l1.length : Int)) = true := decide_eq_true c12
        clear c12
        by_cases c13 : 0 ≤ ((rd_T55 t287 x9_1).f1)
        ·rw [if_pos c13] at H
         have c13b0 : decide (0 ≤ ((rd_T55 t287 x9_1).f1)) = true := decide_eq_true c13
         clear c13
         by_cases c14 : ((rd_T55 t287 x9_1).f1) < (l2.length : Int)
         ·rw [if_pos c14] at H
          have c14b0 : decide (((rd_T55 t287 x9_1).f1) < (l2.length : Int)) = true := decide_eq_true c14
          clear c14
          by_cases c15 : (rd l1 ((rd_T55 t287 x9_1).f0)) = (rd l2 ((rd_T55 t287 x9_1).f1))
          ·rw [if_pos c15] at H
           have c15b0 : ((rd l1 ((rd_T55 t287 x9_1).f0)) == (rd l2 ((rd_T55 t287 x9_1).f1))) = true := beq_iff_eq.mpr c15
           have c15b1 : ((rd l1 ((rd_T55 t287 x9_1).f0)) != (rd l2 ((rd_T55 t287 x9_1).f1))) = false := bne_eq_false_iff_eq.mpr c15
           clear c15
           have H' := Aside0.mk H
           clear H
           obtain ⟨Ao16, co16, eo16⟩ := Kd.R_slice HO_8.out
           subst eo16
           have p290 : 0 ≤ (x9_1 : Int) := ofDec
           have q290 : x9_1 < (t287.length : Int) := ofDec
           obtain ⟨ad290, e290, hx290_0, hx290_1⟩ := at_T55 (Kd.R_reads' HO_8.out).2.2 x9_1 p290 q290
           cases e290
           replace p290 := eq_true p290
           replace q290 := eq_true q290
           have p291 : 0 ≤ (((rd_T55 t287 x9_1).f0) : Int) := ofDec
           have q291 : ((rd_T55 t287 x9_1).f0) < (l1.length : Int) := ofDec
           obtain ⟨ad291, e291, hx291_0⟩ := Kd.at_int HR1.out ((rd_T55 t287 x9_1).f0) p291 q291
           cases e291
           replace hx291_0 := (HB.out.cell (World.block_lt_of_cell? w _ hx291_0)).trans hx291_0
           replace p291 := eq_true p291
           replace q291 := eq_true q291
           have p292 : 0 ≤ (x9_1 : Int) := ofDec
           have q292 : x9_1 < (t287.length : Int) := ofDec
           obtain ⟨ad292, e292, hx292_0, hx292_1⟩ := at_T55 (Kd.R_reads' HO_8.out).2.2 x9_1 p292 q292
           obtain rfl : ad290 = ad292 := (by injection e292)
           replace p292 := eq_true p292
           replace q292 := eq_true q292
           have p293 : 0 ≤ (((rd_T55 t287 x9_1).f1) : Int) := ofDec
           have q293 : ((rd_T55 t287 x9_1).f1) < (l2.length : Int) := ofDec
           obtain ⟨ad293, e293, hx293_0⟩ := Kd.at_int HR2.out ((rd_T55 t287 x9_1).f1) p293 q293
           cases e293
           replace hx293_0 := (HB.out.cell (World.block_lt_of_cell? w _ hx293_0)).trans hx293_0
           replace p293 := eq_true p293
           replace q293 := eq_true q293
           go_wp2
           repeat (go_quiet (fail); try go_wp2)
           go_roundg k1
           case measure => have := HK1.out; omega
           case rel => exact ⟨(wrap64 (x9_1 + 1)), eqNow, H', ⟨by have := HK1.out; omega⟩, ⟨by (with_reducible repeat (first | apply Kd.R_alloc | apply Kd.R_drewN | apply Kd.R_drew)); (first | exact HO_8.out | exact Kd.R_mono HO_8.out (fun k_ h_ h2_ => h_ (h2_.trans ((fun (A_ : Option Addr) (n_ m_ c_ : Nat) => (show (Value.slice A_ n_ c_).ownBlock = (Value.slice A_ m_ c_).ownBlock by cases A_ <;> rfl)) _ _ _ _))))⟩, ⟨belNow⟩⟩
          ·rw [if_neg c15] at H
           have c15b0 : ((rd l1 ((rd_T55 t287 x9_1).f0)) == (rd l2 ((rd_T55 t287 x9_1).f1))) = false := beq_eq_false_iff_ne.mpr c15
           have c15b1 : ((rd l1 ((rd_T55 t287 x9_1).f0)) != (rd l2 ((rd_T55 t287 x9_1).f1))) = true := bne_iff_ne.mpr c15
           obtain rfl := Option.some.inj H
           obtain ⟨Ao17, co17, eo17⟩ := Kd.R_slice HO_8.out
           subst eo17
           have p290 : 0 ≤ (x9_1 : Int) := ofDec
           have q290 : x9_1 < (t287.length : Int) := ofDec
           obtain ⟨ad290, e290, hx290_0, hx290_1⟩ := at_T55 (Kd.R_reads' HO_8.out).2.2 x9_1 p290 q290
           cases e290
           replace p290 := eq_true p290
           replace q290 := eq_true q290
           have p291 : 0 ≤ (((rd_T55 t287 x9_1).f0) : Int) := ofDec
           have q291 : ((rd_T55 t287 x9_1).f0) < (l1.length : Int) := ofDec
           obtain ⟨ad291, e291, hx291_0⟩ := Kd.at_int HR1.out ((rd_T55 t287 x9_1).f0) p291 q291
           cases e291
           replace hx291_0 := (HB.out.cell (World.block_lt_of_cell? w _ hx291_0)).trans hx291_0
           replace p291 := eq_true p291
           replace q291 := eq_true q291
           have p292 : 0 ≤ (x9_1 : Int) := ofDec
           have q292 : x9_1 < (t287.length : Int) := ofDec
           obtain ⟨ad292, e292, hx292_0, hx292_1⟩ := at_T55 (Kd.R_reads' HO_8.out).2.2 x9_1 p292 q292
           obtain rfl : ad290 = ad292 := (by injection e292)
           replace p292 := eq_true p292
           replace q292 := eq_true q292
           have p293 : 0 ≤ (((rd_T55 t287 x9_1).f1) : Int) := ofDec
           have q293 : ((rd_T55 t287 x9_1).f1) < (l2.length : Int) := ofDec
           obtain ⟨ad293, e293, hx293_0⟩ := Kd.at_int HR2.out ((rd_T55 t287 x9_1).f1) p293 q293
           cases e293
           replace hx293_0 := (HB.out.cell (World.block_lt_of_cell? w _ hx293_0)).trans hx293_0
           replace p293 := eq_true p293
           replace q293 := eq_true q293
           go_wp2
           repeat (go_quiet (fail); try go_wp2)
           go_ret
           exact ⟨eqEnd, belNow⟩
         ·rw [if_neg c14] at H
          exact absurd H (by simp)
        ·rw [if_neg c13] at H
         exact absurd H (by simp)
       ·rw [if_neg c12] at H
        exact absurd H (by simp)
      ·rw [if_neg c11] at H
       exact absurd H (by simp)
     ·rw [if_neg c10] at H
      exact absurd H (by simp)
    ·rw [if_neg c9] at H
     have c9b0 : decide (x9_1 < (t287.length : Int)) = false := decide_eq_false c9
     clear c9
     obtain rfl := Option.some.inj H
     obtain ⟨Ao18, co18, eo18⟩ := Kd.R_slice HO_8.out
     subst eo18
     go_wp2
     repeat (go_quiet (fail); try go_wp2)
     go_ret
     exact ⟨eqEnd, belNow⟩
 ·rw [if_neg c5] at H
  have c5b0 : (t286 == 0) = false := beq_eq_false_iff_ne.mpr c5
  have c5b1 : (t286 != 0) = true := bne_iff_ne.mpr c5
  obtain rfl := Option.some.inj H
  go_enter Tryd.func13, Tryd.ntmps13
  go_wp2_with (first | (go_at_call 23; (with_reducible refine (selvageref06_Valid.calls k _ _ l0 (l1.length : Int) (l2.length : Int) t286 _ ?side1 ?side2 A4.out).mono ?_); (case side1 => repeat (first | exact HR0.out | (with_reducible refine Kd.C_alloc ?_ _) | (with_reducible refine Kd.C_drewN ?_ _) | (with_reducible refine Kd.C_drew ?_))); (case side2 => exact HC0.out); rintro e w19 ⟨rfl, hb⟩; have n0_ := Aside0.mk (below_step belNow hb); clear HB; have HB := n0_; clear n0_; (try clear hb); (try clear hb2); (try clear hk); (try clear hi)))
  repeat (go_quiet (first | (go_at_call 23; (with_reducible refine (selvageref06_Valid.calls k _ _ l0 (l1.length : Int) (l2.length : Int) t286 _ ?side1 ?side2 A4.out).mono ?_); (case side1 => repeat (first | exact HR0.out | (with_reducible refine Kd.C_alloc ?_ _) | (with_reducible refine Kd.C_drewN ?_ _) | (with_reducible refine Kd.C_drew ?_))); (case side2 => exact HC0.out); rintro e w19 ⟨rfl, hb⟩; have n0_ := Aside0.mk (below_step belNow hb); clear HB; have HB := n0_; clear n0_; (try clear hb); (try clear hb2); (try clear hk); (try clear hi))); try go_wp2_with (first | (go_at_call 23; (with_reducible refine (selvageref06_Valid.calls k _ _ l0 (l1.length : Int) (l2.length : Int) t286 _ ?side1 ?side2 A4.out).mono ?_); (case side1 => repeat (first | exact HR0.out | (with_reducible refine Kd.C_alloc ?_ _) | (with_reducible refine Kd.C_drewN ?_ _) | (with_reducible refine Kd.C_drew ?_))); (case side2 => exact HC0.out); rintro e w19 ⟨rfl, hb⟩; have n0_ := Aside0.mk (below_step belNow hb); clear HB; have HB := n0_; clear n0_; (try clear hb); (try clear hb2); (try clear hk); (try clear hi))))
  go_ret
  exact ⟨eqEnd, belNow⟩
def selvageref09_slides.j0 : Nat → List Int → List Int → Int → Bool → Int → Int → Int → Int → Option (Bool)
 | 0, _, _, _, _, _, _, _, _ => none
 | k + 1, x1, x2, x4, x22, x295000, x295001, x295002, x295003 => if x22 = true then (if 0 ≤ x295000 then (if x295000 < (x1.length : Int) then (if 0 ≤ (wrap64 (x295000 + x295001)) then (if (wrap64 (x295000 + x295001)) < (x1.length : Int) then (some ((rd x1 x295000) == (rd x1 (wrap64 (x295000 + x295001))))) else (none)) else (none)) else (none)) else (none)) else (if x295001 = 0 then (if (wrap64 (x295002 + x295003)) < x4 then (if 0 ≤ x295002 then (if x295002 < (x2.length : Int) then (if 0 ≤ (wrap64 (x295002 + x295003)) then (if (wrap64 (x295002 + x295003)) < (x2.length : Int) then (some ((rd x2 x295002) == (rd x2 (wrap64 (x295002 + x295003))))) else (none)) else (none)) else (none)) else (none)) else (some false)) else (some false))
def selvageref09_slides.f (k : Nat) (a0_0 : Int) (a0_1 : Int) (a0_2 : Int) (a0_3 : Int) (l1 : List Int) (l2 : List Int) (a3 : Int) (a4 : Int) : Option (Bool) := if a0_3 = 0 then (selvageref09_slides.j0 k l1 l2 a4 (decide ((wrap64 (a0_0 + a0_1)) < a3)) a0_0 a0_1 a0_2 a0_3) else (selvageref09_slides.j0 k l1 l2 a4 false a0_0 a0_1 a0_2 a0_3)
set_option maxHeartbeats 8000000 in
set_option maxRecDepth 100000 in
theorem selvageref09_slides.calls (k : Nat) (a0_0 : Int) (a0_1 : Int) (a0_2 : Int) (a0_3 : Int) (A1 : Option Addr) (c1 : Nat) (l1 : List Int) (A2 : Option Addr) (c2 : Nat) (l2 : List Int) (a3 : Int) (a4 : Int) (r : Bool) (w : World) (hr1 : Kd.C (Kd.int .i64) w A1 l1.length l1) (hc1 : l1.length ≤ c1) (hr2 : Kd.C (Kd.int .i64) w A2 l2.length l2) (hc2 : l2.length ≤ c2) (h : selvageref09_slides.f k a0_0 a0_1 a0_2 a0_3 l1 l2 a3 a4 = some r) :
  Calls Tryd.prog 21 #[.agg #[.int .i64 a0_0, .int .i64 a0_1, .int .i64 a0_2, .int .i64 a0_3], .slice A1 l1.length c1, .slice A2 l2.length c2, .int .i64 a3, .int .i64 a4] w fun e w' => e = .returned (.bool r) ∧ Below w.heap.size w w' := by
 have hu43 := Tryd.underlying43
 have HR1 := Aside0.mk hr1
 have HC1 := Aside0.mk hc1
 clear hr1 hc1
 have HR2 := Aside0.mk hr2
 have HC2 := Aside0.mk hc2
 clear hr2 hc2
 have HB := Aside0.mk (Below.refl w.heap.size w)
 have H : (if a0_3 = 0 then (selvageref09_slides.j0 k l1 l2 a4 (decide ((wrap64 (a0_0 + a0_1)) < a3)) a0_0 a0_1 a0_2 a0_3) else (selvageref09_slides.j0 k l1 l2 a4 false a0_0 a0_1 a0_2 a0_3)) = some r := h
 clear h
 have HC6 := Aside0.mk H
 clear H
 go_enter Tryd.func21, Tryd.ntmps21
 go_upto_region 1 with (first | ((with_reducible refine gate_dst (N := 5) rfl ?_); refine box_event ?hg (N := 5) ?hd (cs := #[.int .i64 a0_0, .int .i64 a0_1, .int .i64 a0_2, .int .i64 a0_3]) (t := 43) ?hr ?_; (case hd => rfl); (case hg => rfl); (case hr => first | (go_simp; done) | (go_simp; rfl)); intro gb294 hg w7 hbox hb; have n0_ := Aside0.mk (below_step belNow hb); have n1_ := Aside0.mk (hbox); have n2_ := Aside0.mk ((by rw [hg]; exact (below_size belNow) : w.heap.size ≤ gb294)); have n3_ := Aside0.mk ((by rw [hg]; exact (below_size belNow) : w.heap.size ≤ gb294)); clear HB; have HB := n0_; have BK294 := n1_; have GW294 := n2_; have GE294 := n3_; clear n0_ n1_ n2_ n3_; clear hb hbox hg))
 repeat (go_quiet (first | ((with_reducible refine gate_dst (N := 5) rfl ?_); refine box_event ?hg (N := 5) ?hd (cs := #[.int .i64 a0_0, .int .i64 a0_1, .int .i64 a0_2, .int .i64 a0_3]) (t := 43) ?hr ?_; (case hd => rfl); (case hg => rfl); (case hr => first | (go_simp; done) | (go_simp; rfl)); intro gb294 hg w7 hbox hb; have n0_ := Aside0.mk (below_step belNow hb); have n1_ := Aside0.mk (hbox); have n2_ := Aside0.mk ((by rw [hg]; exact (below_size belNow) : w.heap.size ≤ gb294)); have n3_ := Aside0.mk ((by rw [hg]; exact (below_size belNow) : w.heap.size ≤ gb294)); clear HB; have HB := n0_; have BK294 := n1_; have GW294 := n2_; have GE294 := n3_; clear n0_ n1_ n2_ n3_; clear hb hbox hg)); go_upto_region 1 with (first | ((with_reducible refine gate_dst (N := 5) rfl ?_); refine box_event ?hg (N := 5) ?hd (cs := #[.int .i64 a0_0, .int .i64 a0_1, .int .i64 a0_2, .int .i64 a0_3]) (t := 43) ?hr ?_; (case hd => rfl); (case hg => rfl); (case hr => first | (go_simp; done) | (go_simp; rfl)); intro gb294 hg w7 hbox hb; have n0_ := Aside0.mk (below_step belNow hb); have n1_ := Aside0.mk (hbox); have n2_ := Aside0.mk ((by rw [hg]; exact (below_size belNow) : w.heap.size ≤ gb294)); have n3_ := Aside0.mk ((by rw [hg]; exact (below_size belNow) : w.heap.size ≤ gb294)); clear HB; have HB := n0_; have BK294 := n1_; have GW294 := n2_; have GE294 := n3_; clear n0_ n1_ n2_ n3_; clear hb hbox hg)))
 (try simp only [Act.put, List.setIfInBounds_toArray, List.set_cons_zero, List.set_cons_succ])
 go_cut [22] (fun v22 wc => ∃ (kq : Nat) (x22_5 : Bool), v22 = .bool x22_5 ∧ Aside0 (selvageref09_slides.j0 kq l1 l2 a4 x22_5 a0_0 a0_1 a0_2 a0_3 = some r) ∧ Aside0 (kq ≤ k) ∧ Aside0 (wc.heap[gb294]? = some (.cells #[.int .i64 a0_0, .int .i64 a0_1, .int .i64 a0_2, .int .i64 a0_3] 43 (0, 0))) ∧ Aside0 (Below w.heap.size w wc))
 case first =>
  have H := HC6.out
  clear HC6
  by_cases c8 : a0_3 = 0
  ·rw [if_pos c8] at H
   have c8b0 : (a0_3 == 0) = true := beq_iff_eq.mpr c8
   have c8b1 : (a0_3 != 0) = false := bne_eq_false_iff_eq.mpr c8
   clear c8
   (first | rw [c8b0] | (simp only [i64_w, i32_w]; rw [c8b0]) | skip)
   have H' := Aside0.mk H
   clear H
   have hcz9_0 : w7.cell? ⟨gb294, 0, none⟩ = some (.int .i64 a0_0) := (blk_cell BK294.out 0).trans rfl
   have hcz9_1 : w7.cell? ⟨gb294, 1, none⟩ = some (.int .i64 a0_1) := (blk_cell BK294.out 1).trans rfl
   have hcz9_2 : w7.cell? ⟨gb294, 2, none⟩ = some (.int .i64 a0_2) := (blk_cell BK294.out 2).trans rfl
   have hcz9_3 : w7.cell? ⟨gb294, 3, none⟩ = some (.int .i64 a0_3) := (blk_cell BK294.out 3).trans rfl
   have hfz9_0 := blk_frozen BK294.out 0
   have hfz9_1 := blk_frozen BK294.out 1
   have hfz9_2 := blk_frozen BK294.out 2
   have hfz9_3 := blk_frozen BK294.out 3
   go_wp2
   repeat (go_quiet (fail); try go_wp2)
   go_meet
   case rel => exact ⟨_, (decide ((wrap64 (a0_0 + a0_1)) < a3)), eqNow, H', ⟨by first | omega | exact Nat.le_refl _⟩, ⟨by (with_reducible repeat (first | refine blk_drewN ?_ _ | refine blk_drew ?_ | refine blk_alloc ?_ _)); exact BK294.out⟩, ⟨belPut⟩⟩
  ·rw [if_neg c8] at H
   have c8b0 : (a0_3 == 0) = false := beq_eq_false_iff_ne.mpr c8
   have c8b1 : (a0_3 != 0) = true := bne_iff_ne.mpr c8
   (first | rw [c8b0] | (simp only [i64_w, i32_w]; rw [c8b0]) | skip)
   have H' := Aside0.mk H
   clear H
   have hcz10_0 : w7.cell? ⟨gb294, 0, none⟩ = some (.int .i64 a0_0) := (blk_cell BK294.out 0).trans rfl
   have hcz10_1 : w7.cell? ⟨gb294, 1, none⟩ = some (.int .i64 a0_1) := (blk_cell BK294.out 1).trans rfl
   have hcz10_2 : w7.cell? ⟨gb294, 2, none⟩ = some (.int .i64 a0_2) := (blk_cell BK294.out 2).trans rfl
   have hcz10_3 : w7.cell? ⟨gb294, 3, none⟩ = some (.int .i64 a0_3) := (blk_cell BK294.out 3).trans rfl
   have hfz10_0 := blk_frozen BK294.out 0
   have hfz10_1 := blk_frozen BK294.out 1
   have hfz10_2 := blk_frozen BK294.out 2
   have hfz10_3 := blk_frozen BK294.out 3
   go_wp2
   repeat (go_quiet (fail); try go_wp2)
   go_meet
   case rel => exact ⟨_, (false), eqNow, H', ⟨by first | omega | exact Nat.le_refl _⟩, ⟨by (with_reducible repeat (first | refine blk_drewN ?_ _ | refine blk_drew ?_ | refine blk_alloc ?_ _)); exact BK294.out⟩, ⟨belPut⟩⟩
 case rest =>
  clear HC6
  try clear c1
  try clear c2
  try clear p2
  try clear p6
  try clear c8
  try clear c8b0
  try clear c8b1
  try clear hcz10_0
  try clear hcz10_1
  try clear hcz10_2
  try clear hcz10_3
  try clear hcz9_0
  try clear hcz9_1
  try clear hcz9_2
  try clear hcz9_3
  try clear hfz10_0
  try clear hfz10_1
  try clear hfz10_2
  try clear hfz10_3
  try clear hfz9_0
  try clear hfz9_1
  try clear hfz9_2
  try clear hfz9_3
  obtain ⟨kq, x22_5, rfl, HA, HJ5, BK294, HB⟩ := hcut
  cases kq with
  | zero => exact absurd HA.out (by simp [selvageref09_slides.j0])
  | succ kj5 =>
   have H := HA.out
   clear HA
   simp only [selvageref09_slides.j0] at H
   by_cases c11 : x22_5 = true
   ·subst c11
    have H1 : (if 0 ≤ a0_0 then (if a0_0 < (l1.length : Int) then (if 0 ≤ (wrap64 (a0_0 + a0_1)) then (if (wrap64 (a0_0 + a0_1)) < (l1.length : Int) then (some ((rd l1 a0_0) == (rd l1 (wrap64 (a0_0 + a0_1))))) else (none)) else (none)) else (none)) else (none)) = some r := by rw [if_pos rfl] at H; exact H
    clear H
    have H := H1
    clear H1
    by_cases c12 : 0 ≤ a0_0
    ·rw [if_pos c12] at H
     have c12b0 : decide (0 ≤ a0_0) = true := decide_eq_true c12
     clear c12
     by_cases c13 : a0_0 < (l1.length : Int)
     ·rw [if_pos c13] at H
      have c13b0 : decide (a0_0 < (l1.length : Int)) = true := decide_eq_true c13
      clear c13
      obtain ⟨ji14, hji14⟩ : ∃ j_ : Int, (wrap64 (a0_0 + a0_1)) = j_ := ⟨_, rfl⟩
      replace H : (if 0 ≤ (ji14) then (if (ji14) < (l1.length : Int) then (some ((rd l1 a0_0) == (rd l1 (ji14)))) else (none)) else (none)) = some r := by first | (rw [hji14] at H; exact H) | (simp only [hji14] at H ⊢; exact H)
      have hji14w : (IntKind.i64.wrap (a0_0 + a0_1)) = ji14 := (i64_w _).trans hji14
      by_cases c15 : 0 ≤ (ji14)
      ·rw [if_pos c15] at H
       have c15b0 : decide (0 ≤ (ji14)) = true := decide_eq_true c15
       clear c15
       by_cases c16 : (ji14) < (l1.length : Int)
       ·rw [if_pos c16] at H
        have c16b0 : decide ((ji14) < (l1.length : Int)) = true := decide_eq_true c16
        clear c16
        obtain rfl := Option.some.inj H
        have hcz17_0 : wc.cell? ⟨gb294, 0, none⟩ = some (.int .i64 a0_0) := (blk_cell BK294.out 0).trans rfl
        have hcz17_1 : wc.cell? ⟨gb294, 1, none⟩ = some (.int .i64 a0_1) := (blk_cell BK294.out 1).trans rfl
        have hcz17_2 : wc.cell? ⟨gb294, 2, none⟩ = some (.int .i64 a0_2) := (blk_cell BK294.out 2).trans rfl
        have hcz17_3 : wc.cell? ⟨gb294, 3, none⟩ = some (.int .i64 a0_3) := (blk_cell BK294.out 3).trans rfl
        have hfz17_0 := blk_frozen BK294.out 0
        have hfz17_1 := blk_frozen BK294.out 1
        have hfz17_2 := blk_frozen BK294.out 2
        have hfz17_3 := blk_frozen BK294.out 3
        have p295 : 0 ≤ (a0_0 : Int) := ofDec
        have q295 : a0_0 < (l1.length : Int) := ofDec
        obtain ⟨ad295, e295, hx295_0⟩ := Kd.at_int HR1.out a0_0 p295 q295
        cases e295
        replace hx295_0 := (HB.out.cell (World.block_lt_of_cell? w _ hx295_0)).trans hx295_0
        replace p295 := eq_true p295
        replace q295 := eq_true q295
        have p296 : 0 ≤ ((ji14) : Int) := ofDec
        have q296 : (ji14) < (l1.length : Int) := ofDec
        obtain ⟨ad296, e296, hx296_0⟩ := Kd.at_int HR1.out (ji14) p296 q296
        obtain rfl : ad295 = ad296 := (by injection e296)
        replace hx296_0 := (HB.out.cell (World.block_lt_of_cell? w _ hx296_0)).trans hx296_0
        replace p296 := eq_true p296
        replace q296 := eq_true q296
        go_wp2
        repeat (go_quiet (fail); try go_wp2)
        go_ret
        exact ⟨by first | rfl | (simp [errW_none, errW_some] <;> rfl) | (simp only [← hji14]; first | rfl | (simp [errW_none, errW_some] <;> rfl)) | (simp [*, errW_none, errW_some] <;> rfl) | (simp only [i64_w, i32_w, u8_w]; first | rfl | (simp [errW_none, errW_some] <;> rfl)) | (simp only [bne_nil, beq_nil]; first | rfl | (simp <;> rfl)), belPut⟩
       ·rw [if_neg c16] at H
        exact absurd H (by simp)
      ·rw [if_neg c15] at H
       exact absurd H (by simp)
     ·rw [if_neg c13] at H
      exact absurd H (by simp)
    ·rw [if_neg c12] at H
     exact absurd H (by simp)
   ·replace c11 := Bool.eq_false_iff.mpr c11
    subst c11
    have H1 : (if a0_1 = 0 then (if (wrap64 (a0_2 + a0_3)) < a4 then (if 0 ≤ a0_2 then (if a0_2 < (l2.length : Int) then (if 0 ≤ (wrap64 (a0_2 + a0_3)) then (if (wrap64 (a0_2 + a0_3)) < (l2.length : Int) then (some ((rd l2 a0_2) == (rd l2 (wrap64 (a0_2 + a0_3))))) else (none)) else (none)) else (none)) else (none)) else (some false)) else (some false)) = some r := by rw [if_neg (show ¬ (false = true) by decide)] at H; exact H
    clear H
    have H := H1
    clear H1
    by_cases c18 : a0_1 = 0
    ·rw [if_pos c18] at H
     have c18b0 : (a0_1 == 0) = true := beq_iff_eq.mpr c18
     have c18b1 : (a0_1 != 0) = false := bne_eq_false_iff_eq.mpr c18
     clear c18
     by_cases c19 : (wrap64 (a0_2 + a0_3)) < a4
     ·rw [if_pos c19] at H
      have c19b0 : decide ((wrap64 (a0_2 + a0_3)) < a4) = true := decide_eq_true c19
      clear c19
      by_cases c20 : 0 ≤ a0_2
      ·rw [if_pos c20] at H
       have c20b0 : decide (0 ≤ a0_2) = true := decide_eq_true c20
       clear c20
       by_cases c21 : a0_2 < (l2.length : Int)
       ·rw [if_pos c21] at H
        have c21b0 : decide (a0_2 < (l2.length : Int)) = true := decide_eq_true c21
        clear c21
        obtain ⟨ji22, hji22⟩ : ∃ j_ : Int, (wrap64 (a0_2 + a0_3)) = j_ := ⟨_, rfl⟩
        replace H : (if 0 ≤ (ji22) then (if (ji22) < (l2.length : Int) then (some ((rd l2 a0_2) == (rd l2 (ji22)))) else (none)) else (none)) = some r := by first | (rw [hji22] at H; exact H) | (simp only [hji22] at H ⊢; exact H)
        (try rw [hji22] at c19b0)
        have hji22w : (IntKind.i64.wrap (a0_2 + a0_3)) = ji22 := (i64_w _).trans hji22
        by_cases c23 : 0 ≤ (ji22)
        ·rw [if_pos c23] at H
         have c23b0 : decide (0 ≤ (ji22)) = true := decide_eq_true c23
         clear c23
         by_cases c24 : (ji22) < (l2.length : Int)
         ·rw [if_pos c24] at H
          have c24b0 : decide ((ji22) < (l2.length : Int)) = true := decide_eq_true c24
          clear c24
          obtain rfl := Option.some.inj H
          have hcz25_0 : wc.cell? ⟨gb294, 0, none⟩ = some (.int .i64 a0_0) := (blk_cell BK294.out 0).trans rfl
          have hcz25_1 : wc.cell? ⟨gb294, 1, none⟩ = some (.int .i64 a0_1) := (blk_cell BK294.out 1).trans rfl
          have hcz25_2 : wc.cell? ⟨gb294, 2, none⟩ = some (.int .i64 a0_2) := (blk_cell BK294.out 2).trans rfl
          have hcz25_3 : wc.cell? ⟨gb294, 3, none⟩ = some (.int .i64 a0_3) := (blk_cell BK294.out 3).trans rfl
          have hfz25_0 := blk_frozen BK294.out 0
          have hfz25_1 := blk_frozen BK294.out 1
          have hfz25_2 := blk_frozen BK294.out 2
          have hfz25_3 := blk_frozen BK294.out 3
          have p297 : 0 ≤ (a0_2 : Int) := ofDec
          have q297 : a0_2 < (l2.length : Int) := ofDec
          obtain ⟨ad297, e297, hx297_0⟩ := Kd.at_int HR2.out a0_2 p297 q297
          cases e297
          replace hx297_0 := (HB.out.cell (World.block_lt_of_cell? w _ hx297_0)).trans hx297_0
          replace p297 := eq_true p297
          replace q297 := eq_true q297
          have p298 : 0 ≤ ((ji22) : Int) := ofDec
          have q298 : (ji22) < (l2.length : Int) := ofDec
          obtain ⟨ad298, e298, hx298_0⟩ := Kd.at_int HR2.out (ji22) p298 q298
          obtain rfl : ad297 = ad298 := (by injection e298)
          replace hx298_0 := (HB.out.cell (World.block_lt_of_cell? w _ hx298_0)).trans hx298_0
          replace p298 := eq_true p298
          replace q298 := eq_true q298
          go_wp2
          repeat (go_quiet (fail); try go_wp2)
          go_ret
          exact ⟨by first | rfl | (simp [errW_none, errW_some] <;> rfl) | (simp only [← hji22]; first | rfl | (simp [errW_none, errW_some] <;> rfl)) | (simp [*, errW_none, errW_some] <;> rfl) | (simp only [i64_w, i32_w, u8_w]; first | rfl | (simp [errW_none, errW_some] <;> rfl)) | (simp only [bne_nil, beq_nil]; first | rfl | (simp <;> rfl)), belPut⟩
         ·rw [if_neg c24] at H
          exact absurd H (by simp)
        ·rw [if_neg c23] at H
         exact absurd H (by simp)
       ·rw [if_neg c21] at H
        exact absurd H (by simp)
      ·rw [if_neg c20] at H
       exact absurd H (by simp)
     ·rw [if_neg c19] at H
      have c19b0 : decide ((wrap64 (a0_2 + a0_3)) < a4) = false := decide_eq_false c19
      clear c19
      obtain rfl := Option.some.inj H
      have hcz26_0 : wc.cell? ⟨gb294, 0, none⟩ = some (.int .i64 a0_0) := (blk_cell BK294.out 0).trans rfl
      have hcz26_1 : wc.cell? ⟨gb294, 1, none⟩ = some (.int .i64 a0_1) := (blk_cell BK294.out 1).trans rfl
      have hcz26_2 : wc.cell? ⟨gb294, 2, none⟩ = some (.int .i64 a0_2) := (blk_cell BK294.out 2).trans rfl
      have hcz26_3 : wc.cell? ⟨gb294, 3, none⟩ = some (.int .i64 a0_3) := (blk_cell BK294.out 3).trans rfl
      have hfz26_0 := blk_frozen BK294.out 0
      have hfz26_1 := blk_frozen BK294.out 1
      have hfz26_2 := blk_frozen BK294.out 2
      have hfz26_3 := blk_frozen BK294.out 3
      go_wp2
      repeat (go_quiet (fail); try go_wp2)
      go_ret
      exact ⟨eqEnd, belPut⟩
    ·rw [if_neg c18] at H
     have c18b0 : (a0_1 == 0) = false := beq_eq_false_iff_ne.mpr c18
     have c18b1 : (a0_1 != 0) = true := bne_iff_ne.mpr c18
     obtain rfl := Option.some.inj H
     have hcz27_0 : wc.cell? ⟨gb294, 0, none⟩ = some (.int .i64 a0_0) := (blk_cell BK294.out 0).trans rfl
     have hcz27_1 : wc.cell? ⟨gb294, 1, none⟩ = some (.int .i64 a0_1) := (blk_cell BK294.out 1).trans rfl
     have hcz27_2 : wc.cell? ⟨gb294, 2, none⟩ = some (.int .i64 a0_2) := (blk_cell BK294.out 2).trans rfl
     have hcz27_3 : wc.cell? ⟨gb294, 3, none⟩ = some (.int .i64 a0_3) := (blk_cell BK294.out 3).trans rfl
     have hfz27_0 := blk_frozen BK294.out 0
     have hfz27_1 := blk_frozen BK294.out 1
     have hfz27_2 := blk_frozen BK294.out 2
     have hfz27_3 := blk_frozen BK294.out 3
     go_wp2
     repeat (go_quiet (fail); try go_wp2)
     go_ret
     exact ⟨eqEnd, belPut⟩
end Go.Proofs.YtmfanpibpmajnaaDoor.Pp
