import Derived.Test.YtecjoofjiockkaaGreatDoorESr
import Derived.Test.YtecjoofjiockkaaGreatDoorPp0
namespace Go.Proofs.YtecjoofjiockkaaGreatDoor.Pp
open Go.RowKit Go.Proofs.YtecjoofjiockkaaGreatDoor.Ext Go.Proofs.YtecjoofjiockkaaGreatDoorW.PrintWords Go.Proofs.YtecjoofjiockkaaGreatDoorW.PrintLast Go.Proofs.YtecjoofjiockkaaGreatDoorW.PrintMore
attribute [local go_sem] max2_int min2_int max_two min_two max_three min_three max_four min_four   -- for this text's walks alone
set_option linter.unusedVariables false
set_option linter.unusedSimpArgs false
mutual
def edits_Valid.j0 : Nat → List (S49) → Int → Int → Bool → Option (Option Int)
 | 0, _, _, _, _ => none
 | k + 1, x0, x1, x2, x24 => if x24 = true then (some (some 1)) else (edits_Valid.l0 k x1 x2 0 0 x0 (x0.length : Int) 0)
def edits_Valid.l0 : Nat → Int → Int → Int → Int → List (S49) → Int → Int → Option (Option Int)
 | 0, _, _, _, _, _, _, _ => none
 | k + 1, x1, x2, x7, x8, x26, x27, x28 => if x28 < x27 then (if 0 ≤ x28 then (if x28 < (x26.length : Int) then (if ((rd_T49 x26 x28).f1) < 0 then (some (some 60)) else (if ((rd_T49 x26 x28).f3) < 0 then (some (some 60)) else (if ((rd_T49 x26 x28).f1) = 0 then (if ((rd_T49 x26 x28).f3) = 0 then (some (some 60)) else (if ((rd_T49 x26 x28).f0) < x7 then (some (some 60)) else (if ((rd_T49 x26 x28).f0) > x1 then (some (some 60)) else (if ((rd_T49 x26 x28).f2) < x8 then (some (some 60)) else (if ((rd_T49 x26 x28).f2) > x2 then (some (some 60)) else (if (wrap64 (((rd_T49 x26 x28).f0) - x7)) = (wrap64 (((rd_T49 x26 x28).f2) - x8)) then (if ((rd_T49 x26 x28).f1) > (wrap64 (x1 - ((rd_T49 x26 x28).f0))) then (some (some 60)) else (if ((rd_T49 x26 x28).f3) > (wrap64 (x2 - ((rd_T49 x26 x28).f2))) then (some (some 60)) else (edits_Valid.l0 k x1 x2 (wrap64 (((rd_T49 x26 x28).f0) + ((rd_T49 x26 x28).f1))) (wrap64 (((rd_T49 x26 x28).f2) + ((rd_T49 x26 x28).f3))) x26 x27 (wrap64 (x28 + 1))))) else (some (some 60)))))))) else (if ((rd_T49 x26 x28).f0) < x7 then (some (some 60)) else (if ((rd_T49 x26 x28).f0) > x1 then (some (some 60)) else (if ((rd_T49 x26 x28).f2) < x8 then (some (some 60)) else (if ((rd_T49 x26 x28).f2) > x2 then (some (some 60)) else (if (wrap64 (((rd_T49 x26 x28).f0) - x7)) = (wrap64 (((rd_T49 x26 x28).f2) - x8)) then (if ((rd_T49 x26 x28).f1) > (wrap64 (x1 - ((rd_T49 x26 x28).f0))) then (some (some 60)) else (if ((rd_T49 x26 x28).f3) > (wrap64 (x2 - ((rd_T49 x26 x28).f2))) then (some (some 60)) else (edits_Valid.l0 k x1 x2 (wrap64 (((rd_T49 x26 x28).f0) + ((rd_T49 x26 x28).f1))) (wrap64 (((rd_T49 x26 x28).f2) + ((rd_T49 x26 x28).f3))) x26 x27 (wrap64 (x28 + 1))))) else (some (some 60)))))))))) else (none)) else (none)) else (if (wrap64 (x1 - x7)) = (wrap64 (x2 - x8)) then (some none) else (some (some 60)))
end
def edits_Valid.f (k : Nat) (l0 : List (S49)) (a1 : Int) (a2 : Int) : Option (Option Int) := if a1 < 0 then (edits_Valid.j0 k l0 a1 a2 true) else (if a1 > 4194304 then (edits_Valid.j0 k l0 a1 a2 true) else (if a2 < 0 then (edits_Valid.j0 k l0 a1 a2 true) else (edits_Valid.j0 k l0 a1 a2 (decide (a2 > 4194304)))))
theorem edits_Valid.mono_l : ∀ k, (∀ y0 y1 y2 y3, LeO (edits_Valid.j0 k y0 y1 y2 y3) (edits_Valid.j0 (k + 1) y0 y1 y2 y3)) ∧ (∀ y0 y1 y2 y3 y4 y5 y6, LeO (edits_Valid.l0 k y0 y1 y2 y3 y4 y5 y6) (edits_Valid.l0 (k + 1) y0 y1 y2 y3 y4 y5 y6))
 | 0 => ⟨fun _ _ _ _ r h => by simp [edits_Valid.j0] at h, fun _ _ _ _ _ _ _ r h => by simp [edits_Valid.l0] at h⟩
 | k + 1 => by
  obtain ⟨ih0, ih1⟩ := edits_Valid.mono_l k
  refine ⟨?_, ?_⟩
  ·intro y0 y1 y2 y3
   unfold edits_Valid.j0
   repeat' first
   | (with_reducible exact ih0 _ _ _ _)
   | (with_reducible exact ih1 _ _ _ _ _ _ _)
   | (with_reducible exact LeO.refl _)
   | (with_reducible exact LeO.none _)
   | (with_reducible refine LeO.ite ?_ ?_)
   | (with_reducible refine LeO.bind ?_ (fun _ => ?_))
   | exact ih0 _ _ _ _
   | exact ih1 _ _ _ _ _ _ _
   | exact LeO.none _
   | refine LeO.ite ?_ ?_
   | refine LeO.bind ?_ (fun _ => ?_)
  ·intro y0 y1 y2 y3 y4 y5 y6
   unfold edits_Valid.l0
   repeat' first
   | (with_reducible exact ih0 _ _ _ _)
   | (with_reducible exact ih1 _ _ _ _ _ _ _)
   | (with_reducible exact LeO.refl _)
   | (with_reducible exact LeO.none _)
   | (with_reducible refine LeO.ite ?_ ?_)
   | (with_reducible refine LeO.bind ?_ (fun _ => ?_))
   | exact ih0 _ _ _ _
   | exact ih1 _ _ _ _ _ _ _
   | exact LeO.none _
   | refine LeO.ite ?_ ?_
   | refine LeO.bind ?_ (fun _ => ?_)
theorem edits_Valid.mono : ∀ a0 a1 a2 k, LeO (edits_Valid.f k a0 a1 a2) (edits_Valid.f (k + 1) a0 a1 a2) := by
 intro a0 a1 a2 k
 obtain ⟨ih0, ih1⟩ := edits_Valid.mono_l k
 unfold edits_Valid.f
 repeat' first
   | (with_reducible exact ih0 _ _ _ _)
   | (with_reducible exact ih1 _ _ _ _ _ _ _)
   | (with_reducible exact LeO.refl _)
   | (with_reducible exact LeO.none _)
   | (with_reducible refine LeO.ite ?_ ?_)
   | (with_reducible refine LeO.bind ?_ (fun _ => ?_))
   | exact ih0 _ _ _ _
   | exact ih1 _ _ _ _ _ _ _
   | exact LeO.none _
   | refine LeO.ite ?_ ?_
   | refine LeO.bind ?_ (fun _ => ?_)
set_option maxHeartbeats 80000000 in
set_option maxRecDepth 100000 in
theorem edits_Valid.calls (k : Nat) (A0 : Option Addr) (c0 : Nat) (l0 : List (S49)) (a1 : Int) (a2 : Int) (r : Option Int) (w : World) (hr0 : Kd.C k49 w A0 l0.length l0) (hc0 : l0.length ≤ c0) (h : edits_Valid.f k l0 a1 a2 = some r) :
  Calls Tryz.prog 94 #[.slice A0 l0.length c0, .int .i64 a1, .int .i64 a2] w fun e w' => e = .returned (errW r) ∧ Below w.heap.size w w' := by
 have hu49 := Tryz.underlying49
 have hu25 := Tryz.underlying25
 have hu73 := Tryz.underlying73
 have HR0 := Aside0.mk hr0
 have HC0 := Aside0.mk hc0
 clear hr0 hc0
 have HB := Aside0.mk (Below.refl w.heap.size w)
 have H : (if a1 < 0 then (edits_Valid.j0 k l0 a1 a2 true) else (if a1 > 4194304 then (edits_Valid.j0 k l0 a1 a2 true) else (if a2 < 0 then (edits_Valid.j0 k l0 a1 a2 true) else (edits_Valid.j0 k l0 a1 a2 (decide (a2 > 4194304)))))) = some r := h
 clear h
 have HC4 := Aside0.mk H
 clear H
 go_enter Tryz.func94, Tryz.ntmps94
 try simp only [List.append_eq, List.cons_append, List.nil_append]
 go_upto_region 1 with (fail)
 repeat (go_quiet (fail); go_upto_region 1 with (fail))
 go_cut [24] (fun v24 wc => ∃ (kq : Nat) (x24_3 : Bool), v24 = .bool x24_3 ∧ Aside0 (edits_Valid.j0 kq l0 a1 a2 x24_3 = some r) ∧ Aside0 (kq ≤ k) ∧ Aside0 (Below w.heap.size w wc))
 case first =>
  have H := HC4.out
  clear HC4
  by_cases c5 : a1 < 0
  ·rw [if_pos c5] at H
   have c5b0 : decide (a1 < 0) = true := decide_eq_true c5
   clear c5
   (first | rw [c5b0] | (simp only [i64_w, i32_w]; rw [c5b0]) | skip)
   have H' := Aside0.mk H
   clear H
   go_wp2
   repeat (go_quiet (fail); try go_wp2)
   go_meet
   case rel => exact ⟨_, (true), eqNow, H', ⟨by first | omega | exact Nat.le_refl _⟩, ⟨belNow⟩⟩
  rw [if_neg c5] at H
  have c5b0 : decide (a1 < 0) = false := decide_eq_false c5
  clear c5
  (first | rw [c5b0] | (simp only [i64_w, i32_w]; rw [c5b0]) | skip)
  by_cases c6 : a1 > 4194304
  ·rw [if_pos c6] at H
   have c6b0 : decide (4194304 < a1) = true := decide_eq_true c6
   clear c6
   have H' := Aside0.mk H
   clear H
   go_wp2
   repeat (go_quiet (fail); try go_wp2)
   go_meet
   case rel => exact ⟨_, (true), eqNow, H', ⟨by first | omega | exact Nat.le_refl _⟩, ⟨belNow⟩⟩
  rw [if_neg c6] at H
  have c6b0 : decide (4194304 < a1) = false := decide_eq_false c6
  clear c6
  by_cases c7 : a2 < 0
  ·rw [if_pos c7] at H
   have c7b0 : decide (a2 < 0) = true := decide_eq_true c7
   clear c7
   have H' := Aside0.mk H
   clear H
   go_wp2
   repeat (go_quiet (fail); try go_wp2)
   go_meet
   case rel => exact ⟨_, (true), eqNow, H', ⟨by first | omega | exact Nat.le_refl _⟩, ⟨belNow⟩⟩
  rw [if_neg c7] at H
  have c7b0 : decide (a2 < 0) = false := decide_eq_false c7
  clear c7
  have H' := Aside0.mk H
  clear H
  go_wp2
  repeat (go_quiet (fail); try go_wp2)
  go_meet
  case rel => exact ⟨_, (decide (a2 > 4194304)), eqNow, H', ⟨by first | omega | exact Nat.le_refl _⟩, ⟨belNow⟩⟩
 case rest =>
  clear HC4
  try clear p2
  try clear c5
  try clear c5b0
  try clear c6
  try clear c6b0
  try clear c7
  try clear c7b0
  obtain ⟨kq, x24_3, rfl, HA, HJ3, HB⟩ := hcut
  cases kq with
  | zero => exact absurd HA.out (by simp [edits_Valid.j0])
  | succ kj3 =>
   have H := HA.out
   clear HA
   simp only [edits_Valid.j0] at H
   by_cases c8 : x24_3 = true
   ·subst c8
    have H1 : (some (some 1)) = some r := by rw [if_pos rfl] at H; exact H
    clear H
    have H := H1
    clear H1
    obtain rfl := Option.some.inj H
    go_wp2
    repeat (go_quiet (fail); try go_wp2)
    go_ret
    exact ⟨eqEnd, belNow⟩
   replace c8 := Bool.eq_false_iff.mpr c8
   subst c8
   have H1 : (edits_Valid.l0 kj3 a1 a2 0 0 l0 (l0.length : Int) 0) = some r := by rw [if_neg (show ¬ (false = true) by decide)] at H; exact H
   clear H
   have H := H1
   clear H1
   have H' := Aside0.mk H
   clear H
   go_wp2
   repeat (go_quiet (fail); try go_wp2)
   go_loopg [7, 8, 28] kj3 (fun kq v7 v8 v28 w' => ∃ (x7_2 : Int) (x8_2 : Int) (x28_2 : Int), v7 = .int .i64 x7_2 ∧ v8 = .int .i64 x8_2 ∧ v28 = .int .i64 x28_2 ∧ Aside0 (edits_Valid.l0 kq a1 a2 x7_2 x8_2 l0 (l0.length : Int) x28_2 = some r) ∧ Aside0 (kq ≤ kj3) ∧ Aside0 (Below w.heap.size w w'))
   case atStart => exact ⟨(0), (0), (0), eqNow, eqNow, eqNow, H', ⟨Nat.le_refl _⟩, ⟨belNow⟩⟩
   case round =>
    clear H'
    try clear p2
    try clear c5
    try clear c5b0
    try clear c6
    try clear c6b0
    try clear c7
    try clear c7b0
    try clear c8
    try clear p2
    obtain ⟨x7_2, x8_2, x28_2, rfl, rfl, rfl, HA, HK2, HB⟩ := hrel
    cases gk with
    | zero => exact absurd HA.out (by simp [edits_Valid.l0])
    | succ k2 =>
     have H := HA.out
     clear HA
     simp only [edits_Valid.l0] at H
     by_cases c9 : x28_2 < (l0.length : Int)
     rotate_left
     ·rw [if_neg c9] at H
      have c9b0 : decide (x28_2 < (l0.length : Int)) = false := decide_eq_false c9
      clear c9
      by_cases c68 : (wrap64 (a1 - x7_2)) = (wrap64 (a2 - x8_2))
      rotate_left
      ·rw [if_neg c68] at H
       have c68b0 : ((wrap64 (a1 - x7_2)) == (wrap64 (a2 - x8_2))) = false := beq_eq_false_iff_ne.mpr c68
       have c68b1 : ((wrap64 (a1 - x7_2)) != (wrap64 (a2 - x8_2))) = true := bne_iff_ne.mpr c68
       obtain rfl := Option.some.inj H
       go_wp2
       repeat (go_quiet (fail); try go_wp2)
       go_ret
       exact ⟨eqEnd, belNow⟩
      rw [if_pos c68] at H
      have c68b0 : ((wrap64 (a1 - x7_2)) == (wrap64 (a2 - x8_2))) = true := beq_iff_eq.mpr c68
      have c68b1 : ((wrap64 (a1 - x7_2)) != (wrap64 (a2 - x8_2))) = false := bne_eq_false_iff_eq.mpr c68
      clear c68
      obtain rfl := Option.some.inj H
      go_wp2
      repeat (go_quiet (fail); try go_wp2)
      go_ret
      exact ⟨eqEnd, belNow⟩
     rw [if_pos c9] at H
     have c9b0 : decide (x28_2 < (l0.length : Int)) = true := decide_eq_true c9
     clear c9
     by_cases c10 : 0 ≤ x28_2
     rotate_left
     ·rw [if_neg c10] at H
      exact absurd H (by simp)
     rw [if_pos c10] at H
     have c10b0 : decide (0 ≤ x28_2) = true := decide_eq_true c10
     clear c10
     by_cases c11 : x28_2 < (l0.length : Int)
     rotate_left
     ·rw [if_neg c11] at H
      exact absurd H (by simp)
     rw [if_pos c11] at H
     have c11b0 : decide (x28_2 < (l0.length : Int)) = true := decide_eq_true c11
     clear c11
     by_cases c12 : ((rd_T49 l0 x28_2).f1) < 0
     ·rw [if_pos c12] at H
      have c12b0 : decide (((rd_T49 l0 x28_2).f1) < 0) = true := decide_eq_true c12
      clear c12
      obtain rfl := Option.some.inj H
      have p235 : 0 ≤ (x28_2 : Int) := ofDec
      have q235 : x28_2 < (l0.length : Int) := ofDec
      obtain ⟨ad235, e235, hx235_0, hx235_1, hx235_2, hx235_3⟩ := at_T49 HR0.out x28_2 p235 q235
      cases e235
      replace hx235_0 := cUp HB.out hx235_0
      replace hx235_1 := cUp HB.out hx235_1
      replace hx235_2 := cUp HB.out hx235_2
      replace hx235_3 := cUp HB.out hx235_3
      replace p235 := eq_true p235
      replace q235 := eq_true q235
      go_wp2_with (((with_reducible refine gate_dst (N := 10) rfl ?_); refine boxEv (N := 10) #[.int .i64 0, .int .i64 0, .int .i64 0, .int .i64 0] 49 ?_; intro gb236 hg w13 hbox hb; have n0_ := Aside0.mk (below_step belNow hb); have n1_ := Aside0.mk (hbox); have n2_ := Aside0.mk (bszNow (w := w) hg); have n3_ := Aside0.mk (bszNow (w := w) hg); clear HB; have HB := n0_; have BK236 := n1_; have GW236 := n2_; have GE236 := n3_; clear n0_ n1_ n2_ n3_; clear hb hbox hg; have hcz14_0 : w13.cell? ⟨gb236, 0, none⟩ = some (.int .i64 0) := (blk_cell BK236.out 0).trans rfl; have hcz14_1 : w13.cell? ⟨gb236, 1, none⟩ = some (.int .i64 0) := (blk_cell BK236.out 1).trans rfl; have hcz14_2 : w13.cell? ⟨gb236, 2, none⟩ = some (.int .i64 0) := (blk_cell BK236.out 2).trans rfl; have hcz14_3 : w13.cell? ⟨gb236, 3, none⟩ = some (.int .i64 0) := (blk_cell BK236.out 3).trans rfl; have hfz14_0 := blk_frozen BK236.out 0; have hfz14_1 := blk_frozen BK236.out 1; have hfz14_2 := blk_frozen BK236.out 2; have hfz14_3 := blk_frozen BK236.out 3))
      repeat (go_quiet (fail); try go_wp2_with (fail))
      go_ret
      exact ⟨eqEnd, belPut⟩
     rw [if_neg c12] at H
     have c12b0 : decide (((rd_T49 l0 x28_2).f1) < 0) = false := decide_eq_false c12
     clear c12
     by_cases c15 : ((rd_T49 l0 x28_2).f3) < 0
     ·rw [if_pos c15] at H
      have c15b0 : decide (((rd_T49 l0 x28_2).f3) < 0) = true := decide_eq_true c15
      clear c15
      obtain rfl := Option.some.inj H
      have p235 : 0 ≤ (x28_2 : Int) := ofDec
      have q235 : x28_2 < (l0.length : Int) := ofDec
      obtain ⟨ad235, e235, hx235_0, hx235_1, hx235_2, hx235_3⟩ := at_T49 HR0.out x28_2 p235 q235
      cases e235
      replace hx235_0 := cUp HB.out hx235_0
      replace hx235_1 := cUp HB.out hx235_1
      replace hx235_2 := cUp HB.out hx235_2
      replace hx235_3 := cUp HB.out hx235_3
      replace p235 := eq_true p235
      replace q235 := eq_true q235
      go_wp2_with (((with_reducible refine gate_dst (N := 10) rfl ?_); refine boxEv (N := 10) #[.int .i64 0, .int .i64 0, .int .i64 0, .int .i64 0] 49 ?_; intro gb236 hg w16 hbox hb; have n0_ := Aside0.mk (below_step belNow hb); have n1_ := Aside0.mk (hbox); have n2_ := Aside0.mk (bszNow (w := w) hg); have n3_ := Aside0.mk (bszNow (w := w) hg); clear HB; have HB := n0_; have BK236 := n1_; have GW236 := n2_; have GE236 := n3_; clear n0_ n1_ n2_ n3_; clear hb hbox hg; have hcz17_0 : w16.cell? ⟨gb236, 0, none⟩ = some (.int .i64 0) := (blk_cell BK236.out 0).trans rfl; have hcz17_1 : w16.cell? ⟨gb236, 1, none⟩ = some (.int .i64 0) := (blk_cell BK236.out 1).trans rfl; have hcz17_2 : w16.cell? ⟨gb236, 2, none⟩ = some (.int .i64 0) := (blk_cell BK236.out 2).trans rfl; have hcz17_3 : w16.cell? ⟨gb236, 3, none⟩ = some (.int .i64 0) := (blk_cell BK236.out 3).trans rfl; have hfz17_0 := blk_frozen BK236.out 0; have hfz17_1 := blk_frozen BK236.out 1; have hfz17_2 := blk_frozen BK236.out 2; have hfz17_3 := blk_frozen BK236.out 3))
      repeat (go_quiet (fail); try go_wp2_with (fail))
      go_ret
      exact ⟨eqEnd, belPut⟩
     rw [if_neg c15] at H
     have c15b0 : decide (((rd_T49 l0 x28_2).f3) < 0) = false := decide_eq_false c15
     clear c15
     by_cases c18 : ((rd_T49 l0 x28_2).f1) = 0
     rotate_left
     ·rw [if_neg c18] at H
      have c18b0 : (((rd_T49 l0 x28_2).f1) == 0) = false := beq_eq_false_iff_ne.mpr c18
      have c18b1 : (((rd_T49 l0 x28_2).f1) != 0) = true := bne_iff_ne.mpr c18
      by_cases c45 : ((rd_T49 l0 x28_2).f0) < x7_2
      ·rw [if_pos c45] at H
       have c45b0 : decide (((rd_T49 l0 x28_2).f0) < x7_2) = true := decide_eq_true c45
       clear c45
       obtain rfl := Option.some.inj H
       have p235 : 0 ≤ (x28_2 : Int) := ofDec
       have q235 : x28_2 < (l0.length : Int) := ofDec
       obtain ⟨ad235, e235, hx235_0, hx235_1, hx235_2, hx235_3⟩ := at_T49 HR0.out x28_2 p235 q235
       cases e235
       replace hx235_0 := cUp HB.out hx235_0
       replace hx235_1 := cUp HB.out hx235_1
       replace hx235_2 := cUp HB.out hx235_2
       replace hx235_3 := cUp HB.out hx235_3
       replace p235 := eq_true p235
       replace q235 := eq_true q235
       go_wp2_with (((with_reducible refine gate_dst (N := 10) rfl ?_); refine boxEv (N := 10) #[.int .i64 0, .int .i64 0, .int .i64 0, .int .i64 0] 49 ?_; intro gb236 hg w46 hbox hb; have n0_ := Aside0.mk (below_step belNow hb); have n1_ := Aside0.mk (hbox); have n2_ := Aside0.mk (bszNow (w := w) hg); have n3_ := Aside0.mk (bszNow (w := w) hg); clear HB; have HB := n0_; have BK236 := n1_; have GW236 := n2_; have GE236 := n3_; clear n0_ n1_ n2_ n3_; clear hb hbox hg; have hcz47_0 : w46.cell? ⟨gb236, 0, none⟩ = some (.int .i64 0) := (blk_cell BK236.out 0).trans rfl; have hcz47_1 : w46.cell? ⟨gb236, 1, none⟩ = some (.int .i64 0) := (blk_cell BK236.out 1).trans rfl; have hcz47_2 : w46.cell? ⟨gb236, 2, none⟩ = some (.int .i64 0) := (blk_cell BK236.out 2).trans rfl; have hcz47_3 : w46.cell? ⟨gb236, 3, none⟩ = some (.int .i64 0) := (blk_cell BK236.out 3).trans rfl; have hfz47_0 := blk_frozen BK236.out 0; have hfz47_1 := blk_frozen BK236.out 1; have hfz47_2 := blk_frozen BK236.out 2; have hfz47_3 := blk_frozen BK236.out 3))
       repeat (go_quiet (fail); try go_wp2_with (fail))
       go_ret
       exact ⟨eqEnd, belPut⟩
      rw [if_neg c45] at H
      have c45b0 : decide (((rd_T49 l0 x28_2).f0) < x7_2) = false := decide_eq_false c45
      clear c45
      by_cases c48 : ((rd_T49 l0 x28_2).f0) > a1
      ·rw [if_pos c48] at H
       have c48b0 : decide (a1 < ((rd_T49 l0 x28_2).f0)) = true := decide_eq_true c48
       clear c48
       obtain rfl := Option.some.inj H
       have p235 : 0 ≤ (x28_2 : Int) := ofDec
       have q235 : x28_2 < (l0.length : Int) := ofDec
       obtain ⟨ad235, e235, hx235_0, hx235_1, hx235_2, hx235_3⟩ := at_T49 HR0.out x28_2 p235 q235
       cases e235
       replace hx235_0 := cUp HB.out hx235_0
       replace hx235_1 := cUp HB.out hx235_1
       replace hx235_2 := cUp HB.out hx235_2
       replace hx235_3 := cUp HB.out hx235_3
       replace p235 := eq_true p235
       replace q235 := eq_true q235
       go_wp2_with (((with_reducible refine gate_dst (N := 10) rfl ?_); refine boxEv (N := 10) #[.int .i64 0, .int .i64 0, .int .i64 0, .int .i64 0] 49 ?_; intro gb236 hg w49 hbox hb; have n0_ := Aside0.mk (below_step belNow hb); have n1_ := Aside0.mk (hbox); have n2_ := Aside0.mk (bszNow (w := w) hg); have n3_ := Aside0.mk (bszNow (w := w) hg); clear HB; have HB := n0_; have BK236 := n1_; have GW236 := n2_; have GE236 := n3_; clear n0_ n1_ n2_ n3_; clear hb hbox hg; have hcz50_0 : w49.cell? ⟨gb236, 0, none⟩ = some (.int .i64 0) := (blk_cell BK236.out 0).trans rfl; have hcz50_1 : w49.cell? ⟨gb236, 1, none⟩ = some (.int .i64 0) := (blk_cell BK236.out 1).trans rfl; have hcz50_2 : w49.cell? ⟨gb236, 2, none⟩ = some (.int .i64 0) := (blk_cell BK236.out 2).trans rfl; have hcz50_3 : w49.cell? ⟨gb236, 3, none⟩ = some (.int .i64 0) := (blk_cell BK236.out 3).trans rfl; have hfz50_0 := blk_frozen BK236.out 0; have hfz50_1 := blk_frozen BK236.out 1; have hfz50_2 := blk_frozen BK236.out 2; have hfz50_3 := blk_frozen BK236.out 3))
       repeat (go_quiet (fail); try go_wp2_with (fail))
       go_ret
       exact ⟨eqEnd, belPut⟩
      rw [if_neg c48] at H
      have c48b0 : decide (a1 < ((rd_T49 l0 x28_2).f0)) = false := decide_eq_false c48
      clear c48
      by_cases c51 : ((rd_T49 l0 x28_2).f2) < x8_2
      ·rw [if_pos c51] at H
       have c51b0 : decide (((rd_T49 l0 x28_2).f2) < x8_2) = true := decide_eq_true c51
       clear c51
       obtain rfl := Option.some.inj H
       have p235 : 0 ≤ (x28_2 : Int) := ofDec
       have q235 : x28_2 < (l0.length : Int) := ofDec
       obtain ⟨ad235, e235, hx235_0, hx235_1, hx235_2, hx235_3⟩ := at_T49 HR0.out x28_2 p235 q235
       cases e235
       replace hx235_0 := cUp HB.out hx235_0
       replace hx235_1 := cUp HB.out hx235_1
       replace hx235_2 := cUp HB.out hx235_2
       replace hx235_3 := cUp HB.out hx235_3
       replace p235 := eq_true p235
       replace q235 := eq_true q235
       go_wp2_with (((with_reducible refine gate_dst (N := 10) rfl ?_); refine boxEv (N := 10) #[.int .i64 0, .int .i64 0, .int .i64 0, .int .i64 0] 49 ?_; intro gb236 hg w52 hbox hb; have n0_ := Aside0.mk (below_step belNow hb); have n1_ := Aside0.mk (hbox); have n2_ := Aside0.mk (bszNow (w := w) hg); have n3_ := Aside0.mk (bszNow (w := w) hg); clear HB; have HB := n0_; have BK236 := n1_; have GW236 := n2_; have GE236 := n3_; clear n0_ n1_ n2_ n3_; clear hb hbox hg; have hcz53_0 : w52.cell? ⟨gb236, 0, none⟩ = some (.int .i64 0) := (blk_cell BK236.out 0).trans rfl; have hcz53_1 : w52.cell? ⟨gb236, 1, none⟩ = some (.int .i64 0) := (blk_cell BK236.out 1).trans rfl; have hcz53_2 : w52.cell? ⟨gb236, 2, none⟩ = some (.int .i64 0) := (blk_cell BK236.out 2).trans rfl; have hcz53_3 : w52.cell? ⟨gb236, 3, none⟩ = some (.int .i64 0) := (blk_cell BK236.out 3).trans rfl; have hfz53_0 := blk_frozen BK236.out 0; have hfz53_1 := blk_frozen BK236.out 1; have hfz53_2 := blk_frozen BK236.out 2; have hfz53_3 := blk_frozen BK236.out 3))
       repeat (go_quiet (fail); try go_wp2_with (fail))
       go_ret
       exact ⟨eqEnd, belPut⟩
      rw [if_neg c51] at H
      have c51b0 : decide (((rd_T49 l0 x28_2).f2) < x8_2) = false := decide_eq_false c51
      clear c51
      by_cases c54 : ((rd_T49 l0 x28_2).f2) > a2
      ·rw [if_pos c54] at H
       have c54b0 : decide (a2 < ((rd_T49 l0 x28_2).f2)) = true := decide_eq_true c54
       clear c54
       obtain rfl := Option.some.inj H
       have p235 : 0 ≤ (x28_2 : Int) := ofDec
       have q235 : x28_2 < (l0.length : Int) := ofDec
       obtain ⟨ad235, e235, hx235_0, hx235_1, hx235_2, hx235_3⟩ := at_T49 HR0.out x28_2 p235 q235
       cases e235
       replace hx235_0 := cUp HB.out hx235_0
       replace hx235_1 := cUp HB.out hx235_1
       replace hx235_2 := cUp HB.out hx235_2
       replace hx235_3 := cUp HB.out hx235_3
       replace p235 := eq_true p235
       replace q235 := eq_true q235
       go_wp2_with (((with_reducible refine gate_dst (N := 10) rfl ?_); refine boxEv (N := 10) #[.int .i64 0, .int .i64 0, .int .i64 0, .int .i64 0] 49 ?_; intro gb236 hg w55 hbox hb; have n0_ := Aside0.mk (below_step belNow hb); have n1_ := Aside0.mk (hbox); have n2_ := Aside0.mk (bszNow (w := w) hg); have n3_ := Aside0.mk (bszNow (w := w) hg); clear HB; have HB := n0_; have BK236 := n1_; have GW236 := n2_; have GE236 := n3_; clear n0_ n1_ n2_ n3_; clear hb hbox hg; have hcz56_0 : w55.cell? ⟨gb236, 0, none⟩ = some (.int .i64 0) := (blk_cell BK236.out 0).trans rfl; have hcz56_1 : w55.cell? ⟨gb236, 1, none⟩ = some (.int .i64 0) := (blk_cell BK236.out 1).trans rfl; have hcz56_2 : w55.cell? ⟨gb236, 2, none⟩ = some (.int .i64 0) := (blk_cell BK236.out 2).trans rfl; have hcz56_3 : w55.cell? ⟨gb236, 3, none⟩ = some (.int .i64 0) := (blk_cell BK236.out 3).trans rfl; have hfz56_0 := blk_frozen BK236.out 0; have hfz56_1 := blk_frozen BK236.out 1; have hfz56_2 := blk_frozen BK236.out 2; have hfz56_3 := blk_frozen BK236.out 3))
       repeat (go_quiet (fail); try go_wp2_with (fail))
       go_ret
       exact ⟨eqEnd, belPut⟩
      rw [if_neg c54] at H
      have c54b0 : decide (a2 < ((rd_T49 l0 x28_2).f2)) = false := decide_eq_false c54
      clear c54
      by_cases c57 : (wrap64 (((rd_T49 l0 x28_2).f0) - x7_2)) = (wrap64 (((rd_T49 l0 x28_2).f2) - x8_2))
      rotate_left
      ·rw [if_neg c57] at H
       have c57b0 : ((wrap64 (((rd_T49 l0 x28_2).f0) - x7_2)) == (wrap64 (((rd_T49 l0 x28_2).f2) - x8_2))) = false := beq_eq_false_iff_ne.mpr c57
       have c57b1 : ((wrap64 (((rd_T49 l0 x28_2).f0) - x7_2)) != (wrap64 (((rd_T49 l0 x28_2).f2) - x8_2))) = true := bne_iff_ne.mpr c57
       obtain rfl := Option.some.inj H
       have p235 : 0 ≤ (x28_2 : Int) := ofDec
       have q235 : x28_2 < (l0.length : Int) := ofDec
       obtain ⟨ad235, e235, hx235_0, hx235_1, hx235_2, hx235_3⟩ := at_T49 HR0.out x28_2 p235 q235
       cases e235
       replace hx235_0 := cUp HB.out hx235_0
       replace hx235_1 := cUp HB.out hx235_1
       replace hx235_2 := cUp HB.out hx235_2
       replace hx235_3 := cUp HB.out hx235_3
       replace p235 := eq_true p235
       replace q235 := eq_true q235
       go_wp2_with (((with_reducible refine gate_dst (N := 10) rfl ?_); refine boxEv (N := 10) #[.int .i64 0, .int .i64 0, .int .i64 0, .int .i64 0] 49 ?_; intro gb236 hg w66 hbox hb; have n0_ := Aside0.mk (below_step belNow hb); have n1_ := Aside0.mk (hbox); have n2_ := Aside0.mk (bszNow (w := w) hg); have n3_ := Aside0.mk (bszNow (w := w) hg); clear HB; have HB := n0_; have BK236 := n1_; have GW236 := n2_; have GE236 := n3_; clear n0_ n1_ n2_ n3_; clear hb hbox hg; have hcz67_0 : w66.cell? ⟨gb236, 0, none⟩ = some (.int .i64 0) := (blk_cell BK236.out 0).trans rfl; have hcz67_1 : w66.cell? ⟨gb236, 1, none⟩ = some (.int .i64 0) := (blk_cell BK236.out 1).trans rfl; have hcz67_2 : w66.cell? ⟨gb236, 2, none⟩ = some (.int .i64 0) := (blk_cell BK236.out 2).trans rfl; have hcz67_3 : w66.cell? ⟨gb236, 3, none⟩ = some (.int .i64 0) := (blk_cell BK236.out 3).trans rfl; have hfz67_0 := blk_frozen BK236.out 0; have hfz67_1 := blk_frozen BK236.out 1; have hfz67_2 := blk_frozen BK236.out 2; have hfz67_3 := blk_frozen BK236.out 3))
       repeat (go_quiet (fail); try go_wp2_with (fail))
       go_ret
       exact ⟨eqEnd, belPut⟩
      rw [if_pos c57] at H
      have c57b0 : ((wrap64 (((rd_T49 l0 x28_2).f0) - x7_2)) == (wrap64 (((rd_T49 l0 x28_2).f2) - x8_2))) = true := beq_iff_eq.mpr c57
      have c57b1 : ((wrap64 (((rd_T49 l0 x28_2).f0) - x7_2)) != (wrap64 (((rd_T49 l0 x28_2).f2) - x8_2))) = false := bne_eq_false_iff_eq.mpr c57
      clear c57
      by_cases c58 : ((rd_T49 l0 x28_2).f1) > (wrap64 (a1 - ((rd_T49 l0 x28_2).f0)))
      ·rw [if_pos c58] at H
       have c58b0 : decide ((wrap64 (a1 - ((rd_T49 l0 x28_2).f0))) < ((rd_T49 l0 x28_2).f1)) = true := decide_eq_true c58
       clear c58
       obtain rfl := Option.some.inj H
       have p235 : 0 ≤ (x28_2 : Int) := ofDec
       have q235 : x28_2 < (l0.length : Int) := ofDec
       obtain ⟨ad235, e235, hx235_0, hx235_1, hx235_2, hx235_3⟩ := at_T49 HR0.out x28_2 p235 q235
       cases e235
       replace hx235_0 := cUp HB.out hx235_0
       replace hx235_1 := cUp HB.out hx235_1
       replace hx235_2 := cUp HB.out hx235_2
       replace hx235_3 := cUp HB.out hx235_3
       replace p235 := eq_true p235
       replace q235 := eq_true q235
       go_wp2_with (((with_reducible refine gate_dst (N := 10) rfl ?_); refine boxEv (N := 10) #[.int .i64 0, .int .i64 0, .int .i64 0, .int .i64 0] 49 ?_; intro gb236 hg w59 hbox hb; have n0_ := Aside0.mk (below_step belNow hb); have n1_ := Aside0.mk (hbox); have n2_ := Aside0.mk (bszNow (w := w) hg); have n3_ := Aside0.mk (bszNow (w := w) hg); clear HB; have HB := n0_; have BK236 := n1_; have GW236 := n2_; have GE236 := n3_; clear n0_ n1_ n2_ n3_; clear hb hbox hg; have hcz60_0 : w59.cell? ⟨gb236, 0, none⟩ = some (.int .i64 0) := (blk_cell BK236.out 0).trans rfl; have hcz60_1 : w59.cell? ⟨gb236, 1, none⟩ = some (.int .i64 0) := (blk_cell BK236.out 1).trans rfl; have hcz60_2 : w59.cell? ⟨gb236, 2, none⟩ = some (.int .i64 0) := (blk_cell BK236.out 2).trans rfl; have hcz60_3 : w59.cell? ⟨gb236, 3, none⟩ = some (.int .i64 0) := (blk_cell BK236.out 3).trans rfl; have hfz60_0 := blk_frozen BK236.out 0; have hfz60_1 := blk_frozen BK236.out 1; have hfz60_2 := blk_frozen BK236.out 2; have hfz60_3 := blk_frozen BK236.out 3))
       repeat (go_quiet (fail); try go_wp2_with (fail))
       go_ret
       exact ⟨eqEnd, belPut⟩
      rw [if_neg c58] at H
      have c58b0 : decide ((wrap64 (a1 - ((rd_T49 l0 x28_2).f0))) < ((rd_T49 l0 x28_2).f1)) = false := decide_eq_false c58
      clear c58
      by_cases c61 : ((rd_T49 l0 x28_2).f3) > (wrap64 (a2 - ((rd_T49 l0 x28_2).f2)))
      ·rw [if_pos c61] at H
       have c61b0 : decide ((wrap64 (a2 - ((rd_T49 l0 x28_2).f2))) < ((rd_T49 l0 x28_2).f3)) = true := decide_eq_true c61
       clear c61
       obtain rfl := Option.some.inj H
       have p235 : 0 ≤ (x28_2 : Int) := ofDec
       have q235 : x28_2 < (l0.length : Int) := ofDec
       obtain ⟨ad235, e235, hx235_0, hx235_1, hx235_2, hx235_3⟩ := at_T49 HR0.out x28_2 p235 q235
       cases e235
       replace hx235_0 := cUp HB.out hx235_0
       replace hx235_1 := cUp HB.out hx235_1
       replace hx235_2 := cUp HB.out hx235_2
       replace hx235_3 := cUp HB.out hx235_3
       replace p235 := eq_true p235
       replace q235 := eq_true q235
       go_wp2_with (((with_reducible refine gate_dst (N := 10) rfl ?_); refine boxEv (N := 10) #[.int .i64 0, .int .i64 0, .int .i64 0, .int .i64 0] 49 ?_; intro gb236 hg w62 hbox hb; have n0_ := Aside0.mk (below_step belNow hb); have n1_ := Aside0.mk (hbox); have n2_ := Aside0.mk (bszNow (w := w) hg); have n3_ := Aside0.mk (bszNow (w := w) hg); clear HB; have HB := n0_; have BK236 := n1_; have GW236 := n2_; have GE236 := n3_; clear n0_ n1_ n2_ n3_; clear hb hbox hg; have hcz63_0 : w62.cell? ⟨gb236, 0, none⟩ = some (.int .i64 0) := (blk_cell BK236.out 0).trans rfl; have hcz63_1 : w62.cell? ⟨gb236, 1, none⟩ = some (.int .i64 0) := (blk_cell BK236.out 1).trans rfl; have hcz63_2 : w62.cell? ⟨gb236, 2, none⟩ = some (.int .i64 0) := (blk_cell BK236.out 2).trans rfl; have hcz63_3 : w62.cell? ⟨gb236, 3, none⟩ = some (.int .i64 0) := (blk_cell BK236.out 3).trans rfl; have hfz63_0 := blk_frozen BK236.out 0; have hfz63_1 := blk_frozen BK236.out 1; have hfz63_2 := blk_frozen BK236.out 2; have hfz63_3 := blk_frozen BK236.out 3))
       repeat (go_quiet (fail); try go_wp2_with (fail))
       go_ret
       exact ⟨eqEnd, belPut⟩
      rw [if_neg c61] at H
      have c61b0 : decide ((wrap64 (a2 - ((rd_T49 l0 x28_2).f2))) < ((rd_T49 l0 x28_2).f3)) = false := decide_eq_false c61
      clear c61
      have H' := Aside0.mk H
      clear H
      have p235 : 0 ≤ (x28_2 : Int) := ofDec
      have q235 : x28_2 < (l0.length : Int) := ofDec
      obtain ⟨ad235, e235, hx235_0, hx235_1, hx235_2, hx235_3⟩ := at_T49 HR0.out x28_2 p235 q235
      cases e235
      replace hx235_0 := cUp HB.out hx235_0
      replace hx235_1 := cUp HB.out hx235_1
      replace hx235_2 := cUp HB.out hx235_2
      replace hx235_3 := cUp HB.out hx235_3
      replace p235 := eq_true p235
      replace q235 := eq_true q235
      go_wp2_with (((with_reducible refine gate_dst (N := 10) rfl ?_); refine boxEv (N := 10) #[.int .i64 0, .int .i64 0, .int .i64 0, .int .i64 0] 49 ?_; intro gb236 hg w64 hbox hb; have n0_ := Aside0.mk (below_step belNow hb); have n1_ := Aside0.mk (hbox); have n2_ := Aside0.mk (bszNow (w := w) hg); have n3_ := Aside0.mk (bszNow (w := w) hg); clear HB; have HB := n0_; have BK236 := n1_; have GW236 := n2_; have GE236 := n3_; clear n0_ n1_ n2_ n3_; clear hb hbox hg; have hcz65_0 : w64.cell? ⟨gb236, 0, none⟩ = some (.int .i64 0) := (blk_cell BK236.out 0).trans rfl; have hcz65_1 : w64.cell? ⟨gb236, 1, none⟩ = some (.int .i64 0) := (blk_cell BK236.out 1).trans rfl; have hcz65_2 : w64.cell? ⟨gb236, 2, none⟩ = some (.int .i64 0) := (blk_cell BK236.out 2).trans rfl; have hcz65_3 : w64.cell? ⟨gb236, 3, none⟩ = some (.int .i64 0) := (blk_cell BK236.out 3).trans rfl; have hfz65_0 := blk_frozen BK236.out 0; have hfz65_1 := blk_frozen BK236.out 1; have hfz65_2 := blk_frozen BK236.out 2; have hfz65_3 := blk_frozen BK236.out 3))
      repeat (go_quiet (fail); try go_wp2_with (fail))
      go_roundg k2
      case measure => have := HJ3.out; have := HK2.out; omega
      case rel => exact ⟨(wrap64 (((rd_T49 l0 x28_2).f0) + ((rd_T49 l0 x28_2).f1))), (wrap64 (((rd_T49 l0 x28_2).f2) + ((rd_T49 l0 x28_2).f3))), (wrap64 (x28_2 + 1)), eqNow, eqNow, eqNow, H', ⟨by have := HJ3.out; have := HK2.out; omega⟩, ⟨belPut⟩⟩
     rw [if_pos c18] at H
     have c18b0 : (((rd_T49 l0 x28_2).f1) == 0) = true := beq_iff_eq.mpr c18
     have c18b1 : (((rd_T49 l0 x28_2).f1) != 0) = false := bne_eq_false_iff_eq.mpr c18
     clear c18
     by_cases c19 : ((rd_T49 l0 x28_2).f3) = 0
     ·rw [if_pos c19] at H
      have c19b0 : (((rd_T49 l0 x28_2).f3) == 0) = true := beq_iff_eq.mpr c19
      have c19b1 : (((rd_T49 l0 x28_2).f3) != 0) = false := bne_eq_false_iff_eq.mpr c19
      clear c19
      obtain rfl := Option.some.inj H
      have p235 : 0 ≤ (x28_2 : Int) := ofDec
      have q235 : x28_2 < (l0.length : Int) := ofDec
      obtain ⟨ad235, e235, hx235_0, hx235_1, hx235_2, hx235_3⟩ := at_T49 HR0.out x28_2 p235 q235
      cases e235
      replace hx235_0 := cUp HB.out hx235_0
      replace hx235_1 := cUp HB.out hx235_1
      replace hx235_2 := cUp HB.out hx235_2
      replace hx235_3 := cUp HB.out hx235_3
      replace p235 := eq_true p235
      replace q235 := eq_true q235
      go_wp2_with (((with_reducible refine gate_dst (N := 10) rfl ?_); refine boxEv (N := 10) #[.int .i64 0, .int .i64 0, .int .i64 0, .int .i64 0] 49 ?_; intro gb236 hg w20 hbox hb; have n0_ := Aside0.mk (below_step belNow hb); have n1_ := Aside0.mk (hbox); have n2_ := Aside0.mk (bszNow (w := w) hg); have n3_ := Aside0.mk (bszNow (w := w) hg); clear HB; have HB := n0_; have BK236 := n1_; have GW236 := n2_; have GE236 := n3_; clear n0_ n1_ n2_ n3_; clear hb hbox hg; have hcz21_0 : w20.cell? ⟨gb236, 0, none⟩ = some (.int .i64 0) := (blk_cell BK236.out 0).trans rfl; have hcz21_1 : w20.cell? ⟨gb236, 1, none⟩ = some (.int .i64 0) := (blk_cell BK236.out 1).trans rfl; have hcz21_2 : w20.cell? ⟨gb236, 2, none⟩ = some (.int .i64 0) := (blk_cell BK236.out 2).trans rfl; have hcz21_3 : w20.cell? ⟨gb236, 3, none⟩ = some (.int .i64 0) := (blk_cell BK236.out 3).trans rfl; have hfz21_0 := blk_frozen BK236.out 0; have hfz21_1 := blk_frozen BK236.out 1; have hfz21_2 := blk_frozen BK236.out 2; have hfz21_3 := blk_frozen BK236.out 3))
      repeat (go_quiet (fail); try go_wp2_with (fail))
      go_ret
      exact ⟨eqEnd, belPut⟩
     rw [if_neg c19] at H
     have c19b0 : (((rd_T49 l0 x28_2).f3) == 0) = false := beq_eq_false_iff_ne.mpr c19
     have c19b1 : (((rd_T49 l0 x28_2).f3) != 0) = true := bne_iff_ne.mpr c19
     by_cases c22 : ((rd_T49 l0 x28_2).f0) < x7_2
     ·rw [if_pos c22] at H
      have c22b0 : decide (((rd_T49 l0 x28_2).f0) < x7_2) = true := decide_eq_true c22
      clear c22
      obtain rfl := Option.some.inj H
      have p235 : 0 ≤ (x28_2 : Int) := ofDec
      have q235 : x28_2 < (l0.length : Int) := ofDec
      obtain ⟨ad235, e235, hx235_0, hx235_1, hx235_2, hx235_3⟩ := at_T49 HR0.out x28_2 p235 q235
      cases e235
      replace hx235_0 := cUp HB.out hx235_0
      replace hx235_1 := cUp HB.out hx235_1
      replace hx235_2 := cUp HB.out hx235_2
      replace hx235_3 := cUp HB.out hx235_3
      replace p235 := eq_true p235
      replace q235 := eq_true q235
      go_wp2_with (((with_reducible refine gate_dst (N := 10) rfl ?_); refine boxEv (N := 10) #[.int .i64 0, .int .i64 0, .int .i64 0, .int .i64 0] 49 ?_; intro gb236 hg w23 hbox hb; have n0_ := Aside0.mk (below_step belNow hb); have n1_ := Aside0.mk (hbox); have n2_ := Aside0.mk (bszNow (w := w) hg); have n3_ := Aside0.mk (bszNow (w := w) hg); clear HB; have HB := n0_; have BK236 := n1_; have GW236 := n2_; have GE236 := n3_; clear n0_ n1_ n2_ n3_; clear hb hbox hg; have hcz24_0 : w23.cell? ⟨gb236, 0, none⟩ = some (.int .i64 0) := (blk_cell BK236.out 0).trans rfl; have hcz24_1 : w23.cell? ⟨gb236, 1, none⟩ = some (.int .i64 0) := (blk_cell BK236.out 1).trans rfl; have hcz24_2 : w23.cell? ⟨gb236, 2, none⟩ = some (.int .i64 0) := (blk_cell BK236.out 2).trans rfl; have hcz24_3 : w23.cell? ⟨gb236, 3, none⟩ = some (.int .i64 0) := (blk_cell BK236.out 3).trans rfl; have hfz24_0 := blk_frozen BK236.out 0; have hfz24_1 := blk_frozen BK236.out 1; have hfz24_2 := blk_frozen BK236.out 2; have hfz24_3 := blk_frozen BK236.out 3))
      repeat (go_quiet (fail); try go_wp2_with (fail))
      go_ret
      exact ⟨eqEnd, belPut⟩
     rw [if_neg c22] at H
     have c22b0 : decide (((rd_T49 l0 x28_2).f0) < x7_2) = false := decide_eq_false c22
     clear c22
     by_cases c25 : ((rd_T49 l0 x28_2).f0) > a1
     ·rw [if_pos c25] at H
      have c25b0 : decide (a1 < ((rd_T49 l0 x28_2).f0)) = true := decide_eq_true c25
      clear c25
      obtain rfl := Option.some.inj H
      have p235 : 0 ≤ (x28_2 : Int) := ofDec
      have q235 : x28_2 < (l0.length : Int) := ofDec
      obtain ⟨ad235, e235, hx235_0, hx235_1, hx235_2, hx235_3⟩ := at_T49 HR0.out x28_2 p235 q235
      cases e235
      replace hx235_0 := cUp HB.out hx235_0
      replace hx235_1 := cUp HB.out hx235_1
      replace hx235_2 := cUp HB.out hx235_2
      replace hx235_3 := cUp HB.out hx235_3
      replace p235 := eq_true p235
      replace q235 := eq_true q235
      go_wp2_with (((with_reducible refine gate_dst (N := 10) rfl ?_); refine boxEv (N := 10) #[.int .i64 0, .int .i64 0, .int .i64 0, .int .i64 0] 49 ?_; intro gb236 hg w26 hbox hb; have n0_ := Aside0.mk (below_step belNow hb); have n1_ := Aside0.mk (hbox); have n2_ := Aside0.mk (bszNow (w := w) hg); have n3_ := Aside0.mk (bszNow (w := w) hg); clear HB; have HB := n0_; have BK236 := n1_; have GW236 := n2_; have GE236 := n3_; clear n0_ n1_ n2_ n3_; clear hb hbox hg; have hcz27_0 : w26.cell? ⟨gb236, 0, none⟩ = some (.int .i64 0) := (blk_cell BK236.out 0).trans rfl; have hcz27_1 : w26.cell? ⟨gb236, 1, none⟩ = some (.int .i64 0) := (blk_cell BK236.out 1).trans rfl; have hcz27_2 : w26.cell? ⟨gb236, 2, none⟩ = some (.int .i64 0) := (blk_cell BK236.out 2).trans rfl; have hcz27_3 : w26.cell? ⟨gb236, 3, none⟩ = some (.int .i64 0) := (blk_cell BK236.out 3).trans rfl; have hfz27_0 := blk_frozen BK236.out 0; have hfz27_1 := blk_frozen BK236.out 1; have hfz27_2 := blk_frozen BK236.out 2; have hfz27_3 := blk_frozen BK236.out 3))
      repeat (go_quiet (fail); try go_wp2_with (fail))
      go_ret
      exact ⟨eqEnd, belPut⟩
     rw [if_neg c25] at H
     have c25b0 : decide (a1 < ((rd_T49 l0 x28_2).f0)) = false := decide_eq_false c25
     clear c25
     by_cases c28 : ((rd_T49 l0 x28_2).f2) < x8_2
     ·rw [if_pos c28] at H
      have c28b0 : decide (((rd_T49 l0 x28_2).f2) < x8_2) = true := decide_eq_true c28
      clear c28
      obtain rfl := Option.some.inj H
      have p235 : 0 ≤ (x28_2 : Int) := ofDec
      have q235 : x28_2 < (l0.length : Int) := ofDec
      obtain ⟨ad235, e235, hx235_0, hx235_1, hx235_2, hx235_3⟩ := at_T49 HR0.out x28_2 p235 q235
      cases e235
      replace hx235_0 := cUp HB.out hx235_0
      replace hx235_1 := cUp HB.out hx235_1
      replace hx235_2 := cUp HB.out hx235_2
      replace hx235_3 := cUp HB.out hx235_3
      replace p235 := eq_true p235
      replace q235 := eq_true q235
      go_wp2_with (((with_reducible refine gate_dst (N := 10) rfl ?_); refine boxEv (N := 10) #[.int .i64 0, .int .i64 0, .int .i64 0, .int .i64 0] 49 ?_; intro gb236 hg w29 hbox hb; have n0_ := Aside0.mk (below_step belNow hb); have n1_ := Aside0.mk (hbox); have n2_ := Aside0.mk (bszNow (w := w) hg); have n3_ := Aside0.mk (bszNow (w := w) hg); clear HB; have HB := n0_; have BK236 := n1_; have GW236 := n2_; have GE236 := n3_; clear n0_ n1_ n2_ n3_; clear hb hbox hg; have hcz30_0 : w29.cell? ⟨gb236, 0, none⟩ = some (.int .i64 0) := (blk_cell BK236.out 0).trans rfl; have hcz30_1 : w29.cell? ⟨gb236, 1, none⟩ = some (.int .i64 0) := (blk_cell BK236.out 1).trans rfl; have hcz30_2 : w29.cell? ⟨gb236, 2, none⟩ = some (.int .i64 0) := (blk_cell BK236.out 2).trans rfl; have hcz30_3 : w29.cell? ⟨gb236, 3, none⟩ = some (.int .i64 0) := (blk_cell BK236.out 3).trans rfl; have hfz30_0 := blk_frozen BK236.out 0; have hfz30_1 := blk_frozen BK236.out 1; have hfz30_2 := blk_frozen BK236.out 2; have hfz30_3 := blk_frozen BK236.out 3))
      repeat (go_quiet (fail); try go_wp2_with (fail))
      go_ret
      exact ⟨eqEnd, belPut⟩
     rw [if_neg c28] at H
     have c28b0 : decide (((rd_T49 l0 x28_2).f2) < x8_2) = false := decide_eq_false c28
     clear c28
     by_cases c31 : ((rd_T49 l0 x28_2).f2) > a2
     ·rw [if_pos c31] at H
      have c31b0 : decide (a2 < ((rd_T49 l0 x28_2).f2)) = true := decide_eq_true c31
      clear c31
      obtain rfl := Option.some.inj H
      have p235 : 0 ≤ (x28_2 : Int) := ofDec
      have q235 : x28_2 < (l0.length : Int) := ofDec
      obtain ⟨ad235, e235, hx235_0, hx235_1, hx235_2, hx235_3⟩ := at_T49 HR0.out x28_2 p235 q235
      cases e235
      replace hx235_0 := cUp HB.out hx235_0
      replace hx235_1 := cUp HB.out hx235_1
      replace hx235_2 := cUp HB.out hx235_2
      replace hx235_3 := cUp HB.out hx235_3
      replace p235 := eq_true p235
      replace q235 := eq_true q235
      go_wp2_with (((with_reducible refine gate_dst (N := 10) rfl ?_); refine boxEv (N := 10) #[.int .i64 0, .int .i64 0, .int .i64 0, .int .i64 0] 49 ?_; intro gb236 hg w32 hbox hb; have n0_ := Aside0.mk (below_step belNow hb); have n1_ := Aside0.mk (hbox); have n2_ := Aside0.mk (bszNow (w := w) hg); have n3_ := Aside0.mk (bszNow (w := w) hg); clear HB; have HB := n0_; have BK236 := n1_; have GW236 := n2_; have GE236 := n3_; clear n0_ n1_ n2_ n3_; clear hb hbox hg; have hcz33_0 : w32.cell? ⟨gb236, 0, none⟩ = some (.int .i64 0) := (blk_cell BK236.out 0).trans rfl; have hcz33_1 : w32.cell? ⟨gb236, 1, none⟩ = some (.int .i64 0) := (blk_cell BK236.out 1).trans rfl; have hcz33_2 : w32.cell? ⟨gb236, 2, none⟩ = some (.int .i64 0) := (blk_cell BK236.out 2).trans rfl; have hcz33_3 : w32.cell? ⟨gb236, 3, none⟩ = some (.int .i64 0) := (blk_cell BK236.out 3).trans rfl; have hfz33_0 := blk_frozen BK236.out 0; have hfz33_1 := blk_frozen BK236.out 1; have hfz33_2 := blk_frozen BK236.out 2; have hfz33_3 := blk_frozen BK236.out 3))
      repeat (go_quiet (fail); try go_wp2_with (fail))
      go_ret
      exact ⟨eqEnd, belPut⟩
     rw [if_neg c31] at H
     have c31b0 : decide (a2 < ((rd_T49 l0 x28_2).f2)) = false := decide_eq_false c31
     clear c31
     by_cases c34 : (wrap64 (((rd_T49 l0 x28_2).f0) - x7_2)) = (wrap64 (((rd_T49 l0 x28_2).f2) - x8_2))
     rotate_left
     ·rw [if_neg c34] at H
      have c34b0 : ((wrap64 (((rd_T49 l0 x28_2).f0) - x7_2)) == (wrap64 (((rd_T49 l0 x28_2).f2) - x8_2))) = false := beq_eq_false_iff_ne.mpr c34
      have c34b1 : ((wrap64 (((rd_T49 l0 x28_2).f0) - x7_2)) != (wrap64 (((rd_T49 l0 x28_2).f2) - x8_2))) = true := bne_iff_ne.mpr c34
      obtain rfl := Option.some.inj H
      have p235 : 0 ≤ (x28_2 : Int) := ofDec
      have q235 : x28_2 < (l0.length : Int) := ofDec
      obtain ⟨ad235, e235, hx235_0, hx235_1, hx235_2, hx235_3⟩ := at_T49 HR0.out x28_2 p235 q235
      cases e235
      replace hx235_0 := cUp HB.out hx235_0
      replace hx235_1 := cUp HB.out hx235_1
      replace hx235_2 := cUp HB.out hx235_2
      replace hx235_3 := cUp HB.out hx235_3
      replace p235 := eq_true p235
      replace q235 := eq_true q235
      go_wp2_with (((with_reducible refine gate_dst (N := 10) rfl ?_); refine boxEv (N := 10) #[.int .i64 0, .int .i64 0, .int .i64 0, .int .i64 0] 49 ?_; intro gb236 hg w43 hbox hb; have n0_ := Aside0.mk (below_step belNow hb); have n1_ := Aside0.mk (hbox); have n2_ := Aside0.mk (bszNow (w := w) hg); have n3_ := Aside0.mk (bszNow (w := w) hg); clear HB; have HB := n0_; have BK236 := n1_; have GW236 := n2_; have GE236 := n3_; clear n0_ n1_ n2_ n3_; clear hb hbox hg; have hcz44_0 : w43.cell? ⟨gb236, 0, none⟩ = some (.int .i64 0) := (blk_cell BK236.out 0).trans rfl; have hcz44_1 : w43.cell? ⟨gb236, 1, none⟩ = some (.int .i64 0) := (blk_cell BK236.out 1).trans rfl; have hcz44_2 : w43.cell? ⟨gb236, 2, none⟩ = some (.int .i64 0) := (blk_cell BK236.out 2).trans rfl; have hcz44_3 : w43.cell? ⟨gb236, 3, none⟩ = some (.int .i64 0) := (blk_cell BK236.out 3).trans rfl; have hfz44_0 := blk_frozen BK236.out 0; have hfz44_1 := blk_frozen BK236.out 1; have hfz44_2 := blk_frozen BK236.out 2; have hfz44_3 := blk_frozen BK236.out 3))
      repeat (go_quiet (fail); try go_wp2_with (fail))
      go_ret
      exact ⟨eqEnd, belPut⟩
     rw [if_pos c34] at H
     have c34b0 : ((wrap64 (((rd_T49 l0 x28_2).f0) - x7_2)) == (wrap64 (((rd_T49 l0 x28_2).f2) - x8_2))) = true := beq_iff_eq.mpr c34
     have c34b1 : ((wrap64 (((rd_T49 l0 x28_2).f0) - x7_2)) != (wrap64 (((rd_T49 l0 x28_2).f2) - x8_2))) = false := bne_eq_false_iff_eq.mpr c34
     clear c34
     by_cases c35 : ((rd_T49 l0 x28_2).f1) > (wrap64 (a1 - ((rd_T49 l0 x28_2).f0)))
     ·rw [if_pos c35] at H
      have c35b0 : decide ((wrap64 (a1 - ((rd_T49 l0 x28_2).f0))) < ((rd_T49 l0 x28_2).f1)) = true := decide_eq_true c35
      clear c35
      obtain rfl := Option.some.inj H
      have p235 : 0 ≤ (x28_2 : Int) := ofDec
      have q235 : x28_2 < (l0.length : Int) := ofDec
      obtain ⟨ad235, e235, hx235_0, hx235_1, hx235_2, hx235_3⟩ := at_T49 HR0.out x28_2 p235 q235
      cases e235
      replace hx235_0 := cUp HB.out hx235_0
      replace hx235_1 := cUp HB.out hx235_1
      replace hx235_2 := cUp HB.out hx235_2
      replace hx235_3 := cUp HB.out hx235_3
      replace p235 := eq_true p235
      replace q235 := eq_true q235
      go_wp2_with (((with_reducible refine gate_dst (N := 10) rfl ?_); refine boxEv (N := 10) #[.int .i64 0, .int .i64 0, .int .i64 0, .int .i64 0] 49 ?_; intro gb236 hg w36 hbox hb; have n0_ := Aside0.mk (below_step belNow hb); have n1_ := Aside0.mk (hbox); have n2_ := Aside0.mk (bszNow (w := w) hg); have n3_ := Aside0.mk (bszNow (w := w) hg); clear HB; have HB := n0_; have BK236 := n1_; have GW236 := n2_; have GE236 := n3_; clear n0_ n1_ n2_ n3_; clear hb hbox hg; have hcz37_0 : w36.cell? ⟨gb236, 0, none⟩ = some (.int .i64 0) := (blk_cell BK236.out 0).trans rfl; have hcz37_1 : w36.cell? ⟨gb236, 1, none⟩ = some (.int .i64 0) := (blk_cell BK236.out 1).trans rfl; have hcz37_2 : w36.cell? ⟨gb236, 2, none⟩ = some (.int .i64 0) := (blk_cell BK236.out 2).trans rfl; have hcz37_3 : w36.cell? ⟨gb236, 3, none⟩ = some (.int .i64 0) := (blk_cell BK236.out 3).trans rfl; have hfz37_0 := blk_frozen BK236.out 0; have hfz37_1 := blk_frozen BK236.out 1; have hfz37_2 := blk_frozen BK236.out 2; have hfz37_3 := blk_frozen BK236.out 3))
      repeat (go_quiet (fail); try go_wp2_with (fail))
      go_ret
      exact ⟨eqEnd, belPut⟩
     rw [if_neg c35] at H
     have c35b0 : decide ((wrap64 (a1 - ((rd_T49 l0 x28_2).f0))) < ((rd_T49 l0 x28_2).f1)) = false := decide_eq_false c35
     clear c35
     by_cases c38 : ((rd_T49 l0 x28_2).f3) > (wrap64 (a2 - ((rd_T49 l0 x28_2).f2)))
     ·rw [if_pos c38] at H
      have c38b0 : decide ((wrap64 (a2 - ((rd_T49 l0 x28_2).f2))) < ((rd_T49 l0 x28_2).f3)) = true := decide_eq_true c38
      clear c38
      obtain rfl := Option.some.inj H
      have p235 : 0 ≤ (x28_2 : Int) := ofDec
      have q235 : x28_2 < (l0.length : Int) := ofDec
      obtain ⟨ad235, e235, hx235_0, hx235_1, hx235_2, hx235_3⟩ := at_T49 HR0.out x28_2 p235 q235
      cases e235
      replace hx235_0 := cUp HB.out hx235_0
      replace hx235_1 := cUp HB.out hx235_1
      replace hx235_2 := cUp HB.out hx235_2
      replace hx235_3 := cUp HB.out hx235_3
      replace p235 := eq_true p235
      replace q235 := eq_true q235
      go_wp2_with (((with_reducible refine gate_dst (N := 10) rfl ?_); refine boxEv (N := 10) #[.int .i64 0, .int .i64 0, .int .i64 0, .int .i64 0] 49 ?_; intro gb236 hg w39 hbox hb; have n0_ := Aside0.mk (below_step belNow hb); have n1_ := Aside0.mk (hbox); have n2_ := Aside0.mk (bszNow (w := w) hg); have n3_ := Aside0.mk (bszNow (w := w) hg); clear HB; have HB := n0_; have BK236 := n1_; have GW236 := n2_; have GE236 := n3_; clear n0_ n1_ n2_ n3_; clear hb hbox hg; have hcz40_0 : w39.cell? ⟨gb236, 0, none⟩ = some (.int .i64 0) := (blk_cell BK236.out 0).trans rfl; have hcz40_1 : w39.cell? ⟨gb236, 1, none⟩ = some (.int .i64 0) := (blk_cell BK236.out 1).trans rfl; have hcz40_2 : w39.cell? ⟨gb236, 2, none⟩ = some (.int .i64 0) := (blk_cell BK236.out 2).trans rfl; have hcz40_3 : w39.cell? ⟨gb236, 3, none⟩ = some (.int .i64 0) := (blk_cell BK236.out 3).trans rfl; have hfz40_0 := blk_frozen BK236.out 0; have hfz40_1 := blk_frozen BK236.out 1; have hfz40_2 := blk_frozen BK236.out 2; have hfz40_3 := blk_frozen BK236.out 3))
      repeat (go_quiet (fail); try go_wp2_with (fail))
      go_ret
      exact ⟨eqEnd, belPut⟩
     rw [if_neg c38] at H
     have c38b0 : decide ((wrap64 (a2 - ((rd_T49 l0 x28_2).f2))) < ((rd_T49 l0 x28_2).f3)) = false := decide_eq_false c38
     clear c38
     have H' := Aside0.mk H
     clear H
     have p235 : 0 ≤ (x28_2 : Int) := ofDec
     have q235 : x28_2 < (l0.length : Int) := ofDec
     obtain ⟨ad235, e235, hx235_0, hx235_1, hx235_2, hx235_3⟩ := at_T49 HR0.out x28_2 p235 q235
     cases e235
     replace hx235_0 := cUp HB.out hx235_0
     replace hx235_1 := cUp HB.out hx235_1
     replace hx235_2 := cUp HB.out hx235_2
     replace hx235_3 := cUp HB.out hx235_3
     replace p235 := eq_true p235
     replace q235 := eq_true q235
     go_wp2_with (((with_reducible refine gate_dst (N := 10) rfl ?_); refine boxEv (N := 10) #[.int .i64 0, .int .i64 0, .int .i64 0, .int .i64 0] 49 ?_; intro gb236 hg w41 hbox hb; have n0_ := Aside0.mk (below_step belNow hb); have n1_ := Aside0.mk (hbox); have n2_ := Aside0.mk (bszNow (w := w) hg); have n3_ := Aside0.mk (bszNow (w := w) hg); clear HB; have HB := n0_; have BK236 := n1_; have GW236 := n2_; have GE236 := n3_; clear n0_ n1_ n2_ n3_; clear hb hbox hg; have hcz42_0 : w41.cell? ⟨gb236, 0, none⟩ = some (.int .i64 0) := (blk_cell BK236.out 0).trans rfl; have hcz42_1 : w41.cell? ⟨gb236, 1, none⟩ = some (.int .i64 0) := (blk_cell BK236.out 1).trans rfl; have hcz42_2 : w41.cell? ⟨gb236, 2, none⟩ = some (.int .i64 0) := (blk_cell BK236.out 2).trans rfl; have hcz42_3 : w41.cell? ⟨gb236, 3, none⟩ = some (.int .i64 0) := (blk_cell BK236.out 3).trans rfl; have hfz42_0 := blk_frozen BK236.out 0; have hfz42_1 := blk_frozen BK236.out 1; have hfz42_2 := blk_frozen BK236.out 2; have hfz42_3 := blk_frozen BK236.out 3))
     repeat (go_quiet (fail); try go_wp2_with (fail))
     go_roundg k2
     case measure => have := HJ3.out; have := HK2.out; omega
     case rel => exact ⟨(wrap64 (((rd_T49 l0 x28_2).f0) + ((rd_T49 l0 x28_2).f1))), (wrap64 (((rd_T49 l0 x28_2).f2) + ((rd_T49 l0 x28_2).f3))), (wrap64 (x28_2 + 1)), eqNow, eqNow, eqNow, H', ⟨by have := HJ3.out; have := HK2.out; omega⟩, ⟨belPut⟩⟩
end Go.Proofs.YtecjoofjiockkaaGreatDoor.Pp
