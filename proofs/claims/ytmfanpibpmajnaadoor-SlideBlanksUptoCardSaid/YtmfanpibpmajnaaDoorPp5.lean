-- Printed by this session's pp.py over the kit's printer, out of the translation. Lean checks it.
import Derived.Test.YtmfanpibpmajnaaDoorESq
import Derived.Test.YtmfanpibpmajnaaDoorPp0
namespace Go.Proofs.YtmfanpibpmajnaaDoor.Pp
open Go.RowKit Go.Proofs.YtmfanpibpmajnaaDoor.Ext Go.Proofs.YtmfanpibpmajnaaDoorW.PrintWords Go.Proofs.YtmfanpibpmajnaaDoorW.PrintLast Go.Proofs.YtmfanpibpmajnaaDoorW.PrintMore
attribute [local go_sem] max2_int min2_int max_two min_two max_three min_three max_four min_four   -- for this text's walks alone
set_option linter.unusedVariables false
set_option linter.unusedSimpArgs false
def slide_slides.j0 : Nat → List Int → List Int → Int → Int → Bool → Int → Int → Int → Int → Option (Bool)
 | 0, _, _, _, _, _, _, _, _, _ => none
 | k + 1, x1, x2, x3, x4, x11, x124000, x124001, x124002, x124003 => if x11 = true then (if (wrap64 (x124000 + x124001)) < x3 then (if 0 ≤ x124000 then (if x124000 < (x1.length : Int) then (if 0 ≤ (wrap64 (x124000 + x124001)) then (if (wrap64 (x124000 + x124001)) < (x1.length : Int) then (some ((rd x1 x124000) == (rd x1 (wrap64 (x124000 + x124001))))) else (none)) else (none)) else (none)) else (none)) else (some false)) else (if x124001 = 0 then (if x124003 > 0 then (if (wrap64 (x124002 + x124003)) < x4 then (if 0 ≤ x124002 then (if x124002 < (x2.length : Int) then (if 0 ≤ (wrap64 (x124002 + x124003)) then (if (wrap64 (x124002 + x124003)) < (x2.length : Int) then (some ((rd x2 x124002) == (rd x2 (wrap64 (x124002 + x124003))))) else (none)) else (none)) else (none)) else (none)) else (some false)) else (some false)) else (some false))
def slide_slides.f (k : Nat) (a0_0 : Int) (a0_1 : Int) (a0_2 : Int) (a0_3 : Int) (l1 : List Int) (l2 : List Int) (a3 : Int) (a4 : Int) : Option (Bool) := if a0_3 = 0 then (slide_slides.j0 k l1 l2 a3 a4 (decide (a0_1 > 0)) a0_0 a0_1 a0_2 a0_3) else (slide_slides.j0 k l1 l2 a3 a4 false a0_0 a0_1 a0_2 a0_3)
theorem slide_slides.mono_l : ∀ k, (∀ y0 y1 y2 y3 y4 y5 y6 y7 y8, LeO (slide_slides.j0 k y0 y1 y2 y3 y4 y5 y6 y7 y8) (slide_slides.j0 (k + 1) y0 y1 y2 y3 y4 y5 y6 y7 y8))
 | 0 => fun _ _ _ _ _ _ _ _ _ r h => by simp [slide_slides.j0] at h
 | k + 1 => by
  have ih0 := slide_slides.mono_l k
  ·intro y0 y1 y2 y3 y4 y5 y6 y7 y8
   unfold slide_slides.j0
   repeat' first
   | (with_reducible exact ih0 _ _ _ _ _ _ _ _ _)
   | (with_reducible exact LeO.refl _)
   | (with_reducible exact LeO.none _)
   | (with_reducible refine LeO.ite ?_ ?_)
   | (with_reducible refine LeO.bind ?_ (fun _ => ?_))
   | exact ih0 _ _ _ _ _ _ _ _ _
   | exact LeO.none _
   | refine LeO.ite ?_ ?_
   | refine LeO.bind ?_ (fun _ => ?_)
theorem slide_slides.mono : ∀ a0 a1 a2 a3 a4 a5 a6 a7 k, LeO (slide_slides.f k a0 a1 a2 a3 a4 a5 a6 a7) (slide_slides.f (k + 1) a0 a1 a2 a3 a4 a5 a6 a7) := by
 intro a0 a1 a2 a3 a4 a5 a6 a7 k
 have ih0 := slide_slides.mono_l k
 unfold slide_slides.f
 repeat' first
   | (with_reducible exact ih0 _ _ _ _ _ _ _ _ _)
   | (with_reducible exact LeO.refl _)
   | (with_reducible exact LeO.none _)
   | (with_reducible refine LeO.ite ?_ ?_)
   | (with_reducible refine LeO.bind ?_ (fun _ => ?_))
   | exact ih0 _ _ _ _ _ _ _ _ _
   | exact LeO.none _
   | refine LeO.ite ?_ ?_
   | refine LeO.bind ?_ (fun _ => ?_)
set_option maxHeartbeats 80000000 in
set_option maxRecDepth 100000 in
theorem slide_slides.calls (k : Nat) (a0_0 : Int) (a0_1 : Int) (a0_2 : Int) (a0_3 : Int) (A1 : Option Addr) (c1 : Nat) (l1 : List Int) (A2 : Option Addr) (c2 : Nat) (l2 : List Int) (a3 : Int) (a4 : Int) (r : Bool) (w : World) (hr1 : Kd.C (Kd.int .i64) w A1 l1.length l1) (hc1 : l1.length ≤ c1) (hr2 : Kd.C (Kd.int .i64) w A2 l2.length l2) (hc2 : l2.length ≤ c2) (h : slide_slides.f k a0_0 a0_1 a0_2 a0_3 l1 l2 a3 a4 = some r) :
  Calls Tryd.prog 19 #[.agg #[.int .i64 a0_0, .int .i64 a0_1, .int .i64 a0_2, .int .i64 a0_3], .slice A1 l1.length c1, .slice A2 l2.length c2, .int .i64 a3, .int .i64 a4] w fun e w' => e = .returned (.bool r) ∧ Below w.heap.size w w' := by
 have hu43 := Tryd.underlying43
 have HR1 := Aside0.mk hr1
 have HC1 := Aside0.mk hc1
 clear hr1 hc1
 have HR2 := Aside0.mk hr2
 have HC2 := Aside0.mk hc2
 clear hr2 hc2
 have HB := Aside0.mk (Below.refl w.heap.size w)
 have H : (if a0_3 = 0 then (slide_slides.j0 k l1 l2 a3 a4 (decide (a0_1 > 0)) a0_0 a0_1 a0_2 a0_3) else (slide_slides.j0 k l1 l2 a3 a4 false a0_0 a0_1 a0_2 a0_3)) = some r := h
 clear h
 have HC6 := Aside0.mk H
 clear H
 go_enter Tryd.func19, Tryd.ntmps19
 try simp only [List.append_eq, List.cons_append, List.nil_append]
 go_upto_region 1 with (first | ((with_reducible refine gate_dst (N := 5) rfl ?_); refine box_event ?hg (N := 5) ?hd (cs := #[.int .i64 a0_0, .int .i64 a0_1, .int .i64 a0_2, .int .i64 a0_3]) (t := 43) ?hr ?_; (case hd => rfl); (case hg => rfl); (case hr => first | (go_simp; done) | (go_simp; rfl)); intro gb123 hg w7 hbox hb; have n0_ := Aside0.mk (below_step belNow hb); have n1_ := Aside0.mk (hbox); have n2_ := Aside0.mk ((by rw [hg]; exact (below_size belNow) : w.heap.size ≤ gb123)); have n3_ := Aside0.mk ((by rw [hg]; exact (below_size belNow) : w.heap.size ≤ gb123)); clear HB; have HB := n0_; have BK123 := n1_; have GW123 := n2_; have GE123 := n3_; clear n0_ n1_ n2_ n3_; clear hb hbox hg))
 repeat (go_quiet (first | ((with_reducible refine gate_dst (N := 5) rfl ?_); refine box_event ?hg (N := 5) ?hd (cs := #[.int .i64 a0_0, .int .i64 a0_1, .int .i64 a0_2, .int .i64 a0_3]) (t := 43) ?hr ?_; (case hd => rfl); (case hg => rfl); (case hr => first | (go_simp; done) | (go_simp; rfl)); intro gb123 hg w7 hbox hb; have n0_ := Aside0.mk (below_step belNow hb); have n1_ := Aside0.mk (hbox); have n2_ := Aside0.mk ((by rw [hg]; exact (below_size belNow) : w.heap.size ≤ gb123)); have n3_ := Aside0.mk ((by rw [hg]; exact (below_size belNow) : w.heap.size ≤ gb123)); clear HB; have HB := n0_; have BK123 := n1_; have GW123 := n2_; have GE123 := n3_; clear n0_ n1_ n2_ n3_; clear hb hbox hg)); go_upto_region 1 with (first | ((with_reducible refine gate_dst (N := 5) rfl ?_); refine box_event ?hg (N := 5) ?hd (cs := #[.int .i64 a0_0, .int .i64 a0_1, .int .i64 a0_2, .int .i64 a0_3]) (t := 43) ?hr ?_; (case hd => rfl); (case hg => rfl); (case hr => first | (go_simp; done) | (go_simp; rfl)); intro gb123 hg w7 hbox hb; have n0_ := Aside0.mk (below_step belNow hb); have n1_ := Aside0.mk (hbox); have n2_ := Aside0.mk ((by rw [hg]; exact (below_size belNow) : w.heap.size ≤ gb123)); have n3_ := Aside0.mk ((by rw [hg]; exact (below_size belNow) : w.heap.size ≤ gb123)); clear HB; have HB := n0_; have BK123 := n1_; have GW123 := n2_; have GE123 := n3_; clear n0_ n1_ n2_ n3_; clear hb hbox hg)))
 (try simp only [Act.put, List.setIfInBounds_toArray, List.set_cons_zero, List.set_cons_succ])
 go_cut [11] (fun v11 wc => ∃ (kq : Nat) (x11_5 : Bool), v11 = .bool x11_5 ∧ Aside0 (slide_slides.j0 kq l1 l2 a3 a4 x11_5 a0_0 a0_1 a0_2 a0_3 = some r) ∧ Aside0 (kq ≤ k) ∧ Aside0 (wc.heap[gb123]? = some (.cells #[.int .i64 a0_0, .int .i64 a0_1, .int .i64 a0_2, .int .i64 a0_3] 43 (0, 0))) ∧ Aside0 (Below w.heap.size w wc))
 case first =>
  have H := HC6.out
  clear HC6
  by_cases c8 : a0_3 = 0
  ·rw [if_pos c8] at H
   have c8b0 : (a0_3 == 0) = true := beq_iff_eq.mpr c8
   have c8b1 : (a0_3 != 0) = false := bne_eq_false_iff_eq.mpr c8
   clear c8
   (first | rw [c8b0] | (simp only [i64_w, i32_w]; rw [c8b0]) | skip)
   have H' := Aside0.mk H
   clear H
   have hcz9_0 : w7.cell? ⟨gb123, 0, none⟩ = some (.int .i64 a0_0) := (blk_cell BK123.out 0).trans rfl
   have hcz9_1 : w7.cell? ⟨gb123, 1, none⟩ = some (.int .i64 a0_1) := (blk_cell BK123.out 1).trans rfl
   have hcz9_2 : w7.cell? ⟨gb123, 2, none⟩ = some (.int .i64 a0_2) := (blk_cell BK123.out 2).trans rfl
   have hcz9_3 : w7.cell? ⟨gb123, 3, none⟩ = some (.int .i64 a0_3) := (blk_cell BK123.out 3).trans rfl
   have hfz9_0 := blk_frozen BK123.out 0
   have hfz9_1 := blk_frozen BK123.out 1
   have hfz9_2 := blk_frozen BK123.out 2
   have hfz9_3 := blk_frozen BK123.out 3
   go_wp2
   repeat (go_quiet (fail); try go_wp2)
   go_meet
   case rel => exact ⟨_, (decide (a0_1 > 0)), eqNow, H', ⟨by first | omega | exact Nat.le_refl _⟩, ⟨by (with_reducible repeat (first | refine blk_drewN ?_ _ | refine blk_drew ?_ | refine blk_alloc ?_ _)); exact BK123.out⟩, ⟨belPut⟩⟩
  ·rw [if_neg c8] at H
   have c8b0 : (a0_3 == 0) = false := beq_eq_false_iff_ne.mpr c8
   have c8b1 : (a0_3 != 0) = true := bne_iff_ne.mpr c8
   (first | rw [c8b0] | (simp only [i64_w, i32_w]; rw [c8b0]) | skip)
   have H' := Aside0.mk H
   clear H
   have hcz10_0 : w7.cell? ⟨gb123, 0, none⟩ = some (.int .i64 a0_0) := (blk_cell BK123.out 0).trans rfl
   have hcz10_1 : w7.cell? ⟨gb123, 1, none⟩ = some (.int .i64 a0_1) := (blk_cell BK123.out 1).trans rfl
   have hcz10_2 : w7.cell? ⟨gb123, 2, none⟩ = some (.int .i64 a0_2) := (blk_cell BK123.out 2).trans rfl
   have hcz10_3 : w7.cell? ⟨gb123, 3, none⟩ = some (.int .i64 a0_3) := (blk_cell BK123.out 3).trans rfl
   have hfz10_0 := blk_frozen BK123.out 0
   have hfz10_1 := blk_frozen BK123.out 1
   have hfz10_2 := blk_frozen BK123.out 2
   have hfz10_3 := blk_frozen BK123.out 3
   go_wp2
   repeat (go_quiet (fail); try go_wp2)
   go_meet
   case rel => exact ⟨_, (false), eqNow, H', ⟨by first | omega | exact Nat.le_refl _⟩, ⟨by (with_reducible repeat (first | refine blk_drewN ?_ _ | refine blk_drew ?_ | refine blk_alloc ?_ _)); exact BK123.out⟩, ⟨belPut⟩⟩
 case rest =>
  clear HC6
  try clear c1
  try clear c2
  try clear p2
  try clear c8
  try clear c8b0
  try clear c8b1
  try clear hcz10_0
  try clear hcz10_1
  try clear hcz10_2
  try clear hcz10_3
  try clear hcz9_0
  try clear hcz9_1
  try clear hcz9_2
  try clear hcz9_3
  try clear hfz10_0
  try clear hfz10_1
  try clear hfz10_2
  try clear hfz10_3
  try clear hfz9_0
  try clear hfz9_1
  try clear hfz9_2
  try clear hfz9_3
  obtain ⟨kq, x11_5, rfl, HA, HJ5, BK123, HB⟩ := hcut
  cases kq with
  | zero => exact absurd HA.out (by simp [slide_slides.j0])
  | succ kj5 =>
   have H := HA.out
   clear HA
   simp only [slide_slides.j0] at H
   by_cases c11 : x11_5 = true
   ·subst c11
    have H1 : (if (wrap64 (a0_0 + a0_1)) < a3 then (if 0 ≤ a0_0 then (if a0_0 < (l1.length : Int) then (if 0 ≤ (wrap64 (a0_0 + a0_1)) then (if (wrap64 (a0_0 + a0_1)) < (l1.length : Int) then (some ((rd l1 a0_0) == (rd l1 (wrap64 (a0_0 + a0_1))))) else (none)) else (none)) else (none)) else (none)) else (some false)) = some r := by rw [if_pos rfl] at H; exact H
    clear H
    have H := H1
    clear H1
    by_cases c12 : (wrap64 (a0_0 + a0_1)) < a3
    ·rw [if_pos c12] at H
     have c12b0 : decide ((wrap64 (a0_0 + a0_1)) < a3) = true := decide_eq_true c12
     clear c12
     by_cases c13 : 0 ≤ a0_0
     ·rw [if_pos c13] at H
      have c13b0 : decide (0 ≤ a0_0) = true := decide_eq_true c13
      clear c13
      by_cases c14 : a0_0 < (l1.length : Int)
      ·rw [if_pos c14] at H
       have c14b0 : decide (a0_0 < (l1.length : Int)) = true := decide_eq_true c14
       clear c14
       obtain ⟨ji15, hji15⟩ : ∃ j_ : Int, (wrap64 (a0_0 + a0_1)) = j_ := ⟨_, rfl⟩
       replace H : (if 0 ≤ (ji15) then (if (ji15) < (l1.length : Int) then (some ((rd l1 a0_0) == (rd l1 (ji15)))) else (none)) else (none)) = some r := by first | (rw [hji15] at H; exact H) | (simp only [hji15] at H ⊢; exact H)
       (try rw [hji15] at c12b0)
       have hji15w : (IntKind.i64.wrap (a0_0 + a0_1)) = ji15 := (i64_w _).trans hji15
       by_cases c16 : 0 ≤ (ji15)
       ·rw [if_pos c16] at H
        have c16b0 : decide (0 ≤ (ji15)) = true := decide_eq_true c16
        clear c16
        by_cases c17 : (ji15) < (l1.length : Int)
        ·rw [if_pos c17] at H
         have c17b0 : decide ((ji15) < (l1.length : Int)) = true := decide_eq_true c17
         clear c17
         obtain rfl := Option.some.inj H
         have hcz18_0 : wc.cell? ⟨gb123, 0, none⟩ = some (.int .i64 a0_0) := (blk_cell BK123.out 0).trans rfl
         have hcz18_1 : wc.cell? ⟨gb123, 1, none⟩ = some (.int .i64 a0_1) := (blk_cell BK123.out 1).trans rfl
         have hcz18_2 : wc.cell? ⟨gb123, 2, none⟩ = some (.int .i64 a0_2) := (blk_cell BK123.out 2).trans rfl
         have hcz18_3 : wc.cell? ⟨gb123, 3, none⟩ = some (.int .i64 a0_3) := (blk_cell BK123.out 3).trans rfl
         have hfz18_0 := blk_frozen BK123.out 0
         have hfz18_1 := blk_frozen BK123.out 1
         have hfz18_2 := blk_frozen BK123.out 2
         have hfz18_3 := blk_frozen BK123.out 3
         have p124 : 0 ≤ (a0_0 : Int) := ofDec
         have q124 : a0_0 < (l1.length : Int) := ofDec
         obtain ⟨ad124, e124, hx124_0⟩ := Kd.at_int HR1.out a0_0 p124 q124
         cases e124
         replace hx124_0 := (HB.out.cell (World.block_lt_of_cell? w _ hx124_0)).trans hx124_0
         replace p124 := eq_true p124
         replace q124 := eq_true q124
         have p125 : 0 ≤ ((ji15) : Int) := ofDec
         have q125 : (ji15) < (l1.length : Int) := ofDec
         obtain ⟨ad125, e125, hx125_0⟩ := Kd.at_int HR1.out (ji15) p125 q125
         obtain rfl : ad124 = ad125 := (by injection e125)
         replace hx125_0 := (HB.out.cell (World.block_lt_of_cell? w _ hx125_0)).trans hx125_0
         replace p125 := eq_true p125
         replace q125 := eq_true q125
         go_wp2
         repeat (go_quiet (fail); try go_wp2)
         go_ret
         exact ⟨by first | rfl | (simp [errW_none, errW_some] <;> rfl) | (simp only [← hji15]; first | rfl | (simp [errW_none, errW_some] <;> rfl)) | (simp [*, errW_none, errW_some] <;> rfl) | (simp only [i64_w, i32_w, u8_w]; first | rfl | (simp [errW_none, errW_some] <;> rfl)) | (simp only [bne_nil, beq_nil]; first | rfl | (simp <;> rfl)), belPut⟩
        ·rw [if_neg c17] at H
         exact absurd H (by simp)
       ·rw [if_neg c16] at H
        exact absurd H (by simp)
      ·rw [if_neg c14] at H
       exact absurd H (by simp)
     ·rw [if_neg c13] at H
      exact absurd H (by simp)
    ·rw [if_neg c12] at H
     have c12b0 : decide ((wrap64 (a0_0 + a0_1)) < a3) = false := decide_eq_false c12
     clear c12
     obtain rfl := Option.some.inj H
     have hcz19_0 : wc.cell? ⟨gb123, 0, none⟩ = some (.int .i64 a0_0) := (blk_cell BK123.out 0).trans rfl
     have hcz19_1 : wc.cell? ⟨gb123, 1, none⟩ = some (.int .i64 a0_1) := (blk_cell BK123.out 1).trans rfl
     have hcz19_2 : wc.cell? ⟨gb123, 2, none⟩ = some (.int .i64 a0_2) := (blk_cell BK123.out 2).trans rfl
     have hcz19_3 : wc.cell? ⟨gb123, 3, none⟩ = some (.int .i64 a0_3) := (blk_cell BK123.out 3).trans rfl
     have hfz19_0 := blk_frozen BK123.out 0
     have hfz19_1 := blk_frozen BK123.out 1
     have hfz19_2 := blk_frozen BK123.out 2
     have hfz19_3 := blk_frozen BK123.out 3
     go_wp2
     repeat (go_quiet (fail); try go_wp2)
     go_ret
     exact ⟨eqEnd, belPut⟩
   ·replace c11 := Bool.eq_false_iff.mpr c11
    subst c11
    have H1 : (if a0_1 = 0 then (if a0_3 > 0 then (if (wrap64 (a0_2 + a0_3)) < a4 then (if 0 ≤ a0_2 then (if a0_2 < (l2.length : Int) then (if 0 ≤ (wrap64 (a0_2 + a0_3)) then (if (wrap64 (a0_2 + a0_3)) < (l2.length : Int) then (some ((rd l2 a0_2) == (rd l2 (wrap64 (a0_2 + a0_3))))) else (none)) else (none)) else (none)) else (none)) else (some false)) else (some false)) else (some false)) = some r := by rw [if_neg (show ¬ (false = true) by decide)] at H; exact H
    clear H
    have H := H1
    clear H1
    by_cases c20 : a0_1 = 0
    ·rw [if_pos c20] at H
     have c20b0 : (a0_1 == 0) = true := beq_iff_eq.mpr c20
     have c20b1 : (a0_1 != 0) = false := bne_eq_false_iff_eq.mpr c20
     clear c20
     by_cases c21 : a0_3 > 0
     ·rw [if_pos c21] at H
      have c21b0 : decide (0 < a0_3) = true := decide_eq_true c21
      clear c21
      by_cases c22 : (wrap64 (a0_2 + a0_3)) < a4
      ·rw [if_pos c22] at H
       have c22b0 : decide ((wrap64 (a0_2 + a0_3)) < a4) = true := decide_eq_true c22
       clear c22
       by_cases c23 : 0 ≤ a0_2
       ·rw [if_pos c23] at H
        have c23b0 : decide (0 ≤ a0_2) = true := decide_eq_true c23
        clear c23
        by_cases c24 : a0_2 < (l2.length : Int)
        ·rw [if_pos c24] at H
         have c24b0 : decide (a0_2 < (l2.length : Int)) = true := decide_eq_true c24
         clear c24
         obtain ⟨ji25, hji25⟩ : ∃ j_ : Int, (wrap64 (a0_2 + a0_3)) = j_ := ⟨_, rfl⟩
         replace H : (if 0 ≤ (ji25) then (if (ji25) < (l2.length : Int) then (some ((rd l2 a0_2) == (rd l2 (ji25)))) else (none)) else (none)) = some r := by first | (rw [hji25] at H; exact H) | (simp only [hji25] at H ⊢; exact H)
         (try rw [hji25] at c22b0)
         have hji25w : (IntKind.i64.wrap (a0_2 + a0_3)) = ji25 := (i64_w _).trans hji25
         by_cases c26 : 0 ≤ (ji25)
         ·rw [if_pos c26] at H
          have c26b0 : decide (0 ≤ (ji25)) = true := decide_eq_true c26
          clear c26
          by_cases c27 : (ji25) < (l2.length : Int)
          ·rw [if_pos c27] at H
           have c27b0 : decide ((ji25) < (l2.length : Int)) = true := decide_eq_true c27
           clear c27
           obtain rfl := Option.some.inj H
           have hcz28_0 : wc.cell? ⟨gb123, 0, none⟩ = some (.int .i64 a0_0) := (blk_cell BK123.out 0).trans rfl
           have hcz28_1 : wc.cell? ⟨gb123, 1, none⟩ = some (.int .i64 a0_1) := (blk_cell BK123.out 1).trans rfl
           have hcz28_2 : wc.cell? ⟨gb123, 2, none⟩ = some (.int .i64 a0_2) := (blk_cell BK123.out 2).trans rfl
           have hcz28_3 : wc.cell? ⟨gb123, 3, none⟩ = some (.int .i64 a0_3) := (blk_cell BK123.out 3).trans rfl
           have hfz28_0 := blk_frozen BK123.out 0
           have hfz28_1 := blk_frozen BK123.out 1
           have hfz28_2 := blk_frozen BK123.out 2
           have hfz28_3 := blk_frozen BK123.out 3
           have p126 : 0 ≤ (a0_2 : Int) := ofDec
           have q126 : a0_2 < (l2.length : Int) := ofDec
           obtain ⟨ad126, e126, hx126_0⟩ := Kd.at_int HR2.out a0_2 p126 q126
           cases e126
           replace hx126_0 := (HB.out.cell (World.block_lt_of_cell? w _ hx126_0)).trans hx126_0
           replace p126 := eq_true p126
           replace q126 := eq_true q126
           have p127 : 0 ≤ ((ji25) : Int) := ofDec
           have q127 : (ji25) < (l2.length : Int) := ofDec
           obtain ⟨ad127, e127, hx127_0⟩ := Kd.at_int HR2.out (ji25) p127 q127
           obtain rfl : ad126 = ad127 := (by injection e127)
           replace hx127_0 := (HB.out.cell (World.block_lt_of_cell? w _ hx127_0)).trans hx127_0
           replace p127 := eq_true p127
           replace q127 := eq_true q127
           go_wp2
           repeat (go_quiet (fail); try go_wp2)
           go_ret
           exact ⟨by first | rfl | (simp [errW_none, errW_some] <;> rfl) | (simp only [← hji25]; first | rfl | (simp [errW_none, errW_some] <;> rfl)) | (simp [*, errW_none, errW_some] <;> rfl) | (simp only [i64_w, i32_w, u8_w]; first | rfl | (simp [errW_none, errW_some] <;> rfl)) | (simp only [bne_nil, beq_nil]; first | rfl | (simp <;> rfl)), belPut⟩
          ·rw [if_neg c27] at H
           exact absurd H (by simp)
         ·rw [if_neg c26] at H
          exact absurd H (by simp)
        ·rw [if_neg c24] at H
         exact absurd H (by simp)
       ·rw [if_neg c23] at H
        exact absurd H (by simp)
      ·rw [if_neg c22] at H
       have c22b0 : decide ((wrap64 (a0_2 + a0_3)) < a4) = false := decide_eq_false c22
       clear c22
       obtain rfl := Option.some.inj H
       have hcz29_0 : wc.cell? ⟨gb123, 0, none⟩ = some (.int .i64 a0_0) := (blk_cell BK123.out 0).trans rfl
       have hcz29_1 : wc.cell? ⟨gb123, 1, none⟩ = some (.int .i64 a0_1) := (blk_cell BK123.out 1).trans rfl
       have hcz29_2 : wc.cell? ⟨gb123, 2, none⟩ = some (.int .i64 a0_2) := (blk_cell BK123.out 2).trans rfl
       have hcz29_3 : wc.cell? ⟨gb123, 3, none⟩ = some (.int .i64 a0_3) := (blk_cell BK123.out 3).trans rfl
       have hfz29_0 := blk_frozen BK123.out 0
       have hfz29_1 := blk_frozen BK123.out 1
       have hfz29_2 := blk_frozen BK123.out 2
       have hfz29_3 := blk_frozen BK123.out 3
       go_wp2
       repeat (go_quiet (fail); try go_wp2)
       go_ret
       exact ⟨eqEnd, belPut⟩
     ·rw [if_neg c21] at H
      have c21b0 : decide (0 < a0_3) = false := decide_eq_false c21
      clear c21
      obtain rfl := Option.some.inj H
      have hcz30_0 : wc.cell? ⟨gb123, 0, none⟩ = some (.int .i64 a0_0) := (blk_cell BK123.out 0).trans rfl
      have hcz30_1 : wc.cell? ⟨gb123, 1, none⟩ = some (.int .i64 a0_1) := (blk_cell BK123.out 1).trans rfl
      have hcz30_2 : wc.cell? ⟨gb123, 2, none⟩ = some (.int .i64 a0_2) := (blk_cell BK123.out 2).trans rfl
      have hcz30_3 : wc.cell? ⟨gb123, 3, none⟩ = some (.int .i64 a0_3) := (blk_cell BK123.out 3).trans rfl
      have hfz30_0 := blk_frozen BK123.out 0
      have hfz30_1 := blk_frozen BK123.out 1
      have hfz30_2 := blk_frozen BK123.out 2
      have hfz30_3 := blk_frozen BK123.out 3
      go_wp2
      repeat (go_quiet (fail); try go_wp2)
      go_ret
      exact ⟨eqEnd, belPut⟩
    ·rw [if_neg c20] at H
     have c20b0 : (a0_1 == 0) = false := beq_eq_false_iff_ne.mpr c20
     have c20b1 : (a0_1 != 0) = true := bne_iff_ne.mpr c20
     obtain rfl := Option.some.inj H
     have hcz31_0 : wc.cell? ⟨gb123, 0, none⟩ = some (.int .i64 a0_0) := (blk_cell BK123.out 0).trans rfl
     have hcz31_1 : wc.cell? ⟨gb123, 1, none⟩ = some (.int .i64 a0_1) := (blk_cell BK123.out 1).trans rfl
     have hcz31_2 : wc.cell? ⟨gb123, 2, none⟩ = some (.int .i64 a0_2) := (blk_cell BK123.out 2).trans rfl
     have hcz31_3 : wc.cell? ⟨gb123, 3, none⟩ = some (.int .i64 a0_3) := (blk_cell BK123.out 3).trans rfl
     have hfz31_0 := blk_frozen BK123.out 0
     have hfz31_1 := blk_frozen BK123.out 1
     have hfz31_2 := blk_frozen BK123.out 2
     have hfz31_3 := blk_frozen BK123.out 3
     go_wp2
     repeat (go_quiet (fail); try go_wp2)
     go_ret
     exact ⟨eqEnd, belPut⟩
end Go.Proofs.YtmfanpibpmajnaaDoor.Pp
