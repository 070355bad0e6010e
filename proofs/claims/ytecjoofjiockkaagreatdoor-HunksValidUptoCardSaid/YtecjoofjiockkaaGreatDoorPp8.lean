import Derived.Test.YtecjoofjiockkaaGreatDoorESr
import Derived.Test.YtecjoofjiockkaaGreatDoorPp0
import Derived.Test.YtecjoofjiockkaaGreatDoorPp4
import Derived.Test.YtecjoofjiockkaaGreatDoorPp7
import Derived.Test.YtecjoofjiockkaaGreatDoorESides
namespace Go.Proofs.YtecjoofjiockkaaGreatDoor.Pp
open Go.RowKit Go.Proofs.YtecjoofjiockkaaGreatDoor.Ext Go.Proofs.YtecjoofjiockkaaGreatDoorW.PrintWords Go.Proofs.YtecjoofjiockkaaGreatDoorW.PrintLast Go.Proofs.YtecjoofjiockkaaGreatDoorW.PrintMore
attribute [local go_sem] max2_int min2_int max_two min_two max_three min_three max_four min_four   -- for this text's walks alone
set_option linter.unusedVariables false
set_option linter.unusedSimpArgs false
mutual
def hunks_Order.l0 : Nat → List (S29) → List (S29) → Int → Int → Option (Option Int)
 | 0, _, _, _, _ => none
 | k + 1, x0, x17, x18, x19 => if x19 < x18 then (if 0 ≤ x19 then (if x19 < (x17.length : Int) then ((hunks_Valid.f ((rd_T29 x17 x19).f0) ((rd_T29 x17 x19).f1) ((rd_T29 x17 x19).f2) ((rd_T29 x17 x19).f3) ((rd_T29 x17 x19).f4) ((rd_T29 x17 x19).f5)).bind fun t169 => (if t169.isNone = true then (hunks_Order.l0 k x0 x17 x18 (wrap64 (x19 + 1))) else (some (some (t169.getD 0))))) else (none)) else (none)) else (hunks_Order.l1 k 0 0 false false x0 (x0.length : Int) 0)
def hunks_Order.l1 : Nat → Int → Int → Bool → Bool → List (S29) → Int → Int → Option (Option Int)
 | 0, _, _, _, _, _, _, _ => none
 | k + 1, x6, x7, x8, x9, x29, x30, x31 => if x31 < x30 then (if 0 ≤ x31 then (if x31 < (x29.length : Int) then ((hunks_ahead.f ((rd_T29 x29 x31).f0) ((rd_T29 x29 x31).f1)).bind fun t173 => ((hunks_ahead.f ((rd_T29 x29 x31).f2) ((rd_T29 x29 x31).f3)).bind fun t174 => (if t173 < x6 then (some (some 112)) else (if t174 < x7 then (some (some 112)) else (if (wrap64 (t173 - t174)) = (wrap64 (x6 - x7)) then (if x8 = true then (if ((rd_T29 x29 x31).f1) > 0 then (some (some 112)) else (if x9 = true then (if ((rd_T29 x29 x31).f3) > 0 then (some (some 112)) else ((hunks_sides.f ((rd_T29 x29 x31).f0) ((rd_T29 x29 x31).f1) ((rd_T29 x29 x31).f2) ((rd_T29 x29 x31).f3) ((rd_T29 x29 x31).f4) ((rd_T29 x29 x31).f5)).bind fun bt175 => (hunks_Order.l1 k (wrap64 (t173 + ((rd_T29 x29 x31).f1))) (wrap64 (t174 + ((rd_T29 x29 x31).f3))) true true x29 x30 (wrap64 (x31 + 1))))) else ((hunks_sides.f ((rd_T29 x29 x31).f0) ((rd_T29 x29 x31).f1) ((rd_T29 x29 x31).f2) ((rd_T29 x29 x31).f3) ((rd_T29 x29 x31).f4) ((rd_T29 x29 x31).f5)).bind fun bt182 => (hunks_Order.l1 k (wrap64 (t173 + ((rd_T29 x29 x31).f1))) (wrap64 (t174 + ((rd_T29 x29 x31).f3))) true bt182.2.2.2.1 x29 x30 (wrap64 (x31 + 1)))))) else (if x9 = true then (if ((rd_T29 x29 x31).f3) > 0 then (some (some 112)) else ((hunks_sides.f ((rd_T29 x29 x31).f0) ((rd_T29 x29 x31).f1) ((rd_T29 x29 x31).f2) ((rd_T29 x29 x31).f3) ((rd_T29 x29 x31).f4) ((rd_T29 x29 x31).f5)).bind fun bt189 => (hunks_Order.l1 k (wrap64 (t173 + ((rd_T29 x29 x31).f1))) (wrap64 (t174 + ((rd_T29 x29 x31).f3))) bt189.2.1 true x29 x30 (wrap64 (x31 + 1))))) else ((hunks_sides.f ((rd_T29 x29 x31).f0) ((rd_T29 x29 x31).f1) ((rd_T29 x29 x31).f2) ((rd_T29 x29 x31).f3) ((rd_T29 x29 x31).f4) ((rd_T29 x29 x31).f5)).bind fun bt196 => (hunks_Order.l1 k (wrap64 (t173 + ((rd_T29 x29 x31).f1))) (wrap64 (t174 + ((rd_T29 x29 x31).f3))) bt196.2.1 bt196.2.2.2.1 x29 x30 (wrap64 (x31 + 1)))))) else (some (some 112))))))) else (none)) else (none)) else (some none)
end
def hunks_Order.f (k : Nat) (l0 : List (S29)) : Option (Option Int) := hunks_Order.l0 k l0 l0 (l0.length : Int) 0
theorem hunks_Order.mono_l : ∀ k, (∀ y0 y1 y2 y3, LeO (hunks_Order.l0 k y0 y1 y2 y3) (hunks_Order.l0 (k + 1) y0 y1 y2 y3)) ∧ (∀ y0 y1 y2 y3 y4 y5 y6, LeO (hunks_Order.l1 k y0 y1 y2 y3 y4 y5 y6) (hunks_Order.l1 (k + 1) y0 y1 y2 y3 y4 y5 y6))
 | 0 => ⟨fun _ _ _ _ r h => by simp [hunks_Order.l0] at h, fun _ _ _ _ _ _ _ r h => by simp [hunks_Order.l1] at h⟩
 | k + 1 => by
  obtain ⟨ih0, ih1⟩ := hunks_Order.mono_l k
  refine ⟨?_, ?_⟩
  ·intro y0 y1 y2 y3
   unfold hunks_Order.l0
   repeat' first
   | (with_reducible exact ih0 _ _ _ _)
   | (with_reducible exact ih1 _ _ _ _ _ _ _)
   | (with_reducible exact LeO.refl _)
   | (with_reducible exact LeO.none _)
   | (with_reducible refine LeO.ite ?_ ?_)
   | (with_reducible refine LeO.bind ?_ (fun _ => ?_))
   | exact ih0 _ _ _ _
   | exact ih1 _ _ _ _ _ _ _
   | exact LeO.none _
   | refine LeO.ite ?_ ?_
   | refine LeO.bind ?_ (fun _ => ?_)
  ·intro y0 y1 y2 y3 y4 y5 y6
   unfold hunks_Order.l1
   repeat' first
   | (with_reducible exact ih0 _ _ _ _)
   | (with_reducible exact ih1 _ _ _ _ _ _ _)
   | (with_reducible exact LeO.refl _)
   | (with_reducible exact LeO.none _)
   | (with_reducible refine LeO.ite ?_ ?_)
   | (with_reducible refine LeO.bind ?_ (fun _ => ?_))
   | exact ih0 _ _ _ _
   | exact ih1 _ _ _ _ _ _ _
   | exact LeO.none _
   | refine LeO.ite ?_ ?_
   | refine LeO.bind ?_ (fun _ => ?_)
theorem hunks_Order.mono : ∀ a0 k, LeO (hunks_Order.f k a0) (hunks_Order.f (k + 1) a0) := by
 intro a0 k
 obtain ⟨ih0, ih1⟩ := hunks_Order.mono_l k
 unfold hunks_Order.f
 repeat' first
   | (with_reducible exact ih0 _ _ _ _)
   | (with_reducible exact ih1 _ _ _ _ _ _ _)
   | (with_reducible exact LeO.refl _)
   | (with_reducible exact LeO.none _)
   | (with_reducible refine LeO.ite ?_ ?_)
   | (with_reducible refine LeO.bind ?_ (fun _ => ?_))
   | exact ih0 _ _ _ _
   | exact ih1 _ _ _ _ _ _ _
   | exact LeO.none _
   | refine LeO.ite ?_ ?_
   | refine LeO.bind ?_ (fun _ => ?_)
set_option maxHeartbeats 80000000 in
set_option maxRecDepth 100000 in
theorem hunks_Order.calls (k : Nat) (A0 : Option Addr) (c0 : Nat) (l0 : List (S29)) (r : Option Int) (w : World) (hr0 : Kd.C k29 w A0 l0.length l0) (hc0 : l0.length ≤ c0) (h : hunks_Order.f k l0 = some r) :
  Calls Tryz.prog 15 #[.slice A0 l0.length c0] w fun e w' => e = .returned (errW r) ∧ Below w.heap.size w w' := by
 have hu29 := Tryz.underlying29
 have hu77 := Tryz.underlying77
 have hu25 := Tryz.underlying25
 have hu73 := Tryz.underlying73
 have HR0 := Aside0.mk hr0
 have HC0 := Aside0.mk hc0
 clear hr0 hc0
 have HB := Aside0.mk (Below.refl w.heap.size w)
 have H : (hunks_Order.l0 k l0 l0 (l0.length : Int) 0) = some r := h
 clear h
 have H' := Aside0.mk H
 clear H
 go_enter Tryz.func15, Tryz.ntmps15
 try simp only [List.append_eq, List.cons_append, List.nil_append]
 go_wp2
 repeat (go_quiet (fail); try go_wp2)
 go_loopg [19] k (fun kq v19 w' => ∃ (x19_1 : Int), v19 = .int .i64 x19_1 ∧ Aside0 (hunks_Order.l0 kq l0 l0 (l0.length : Int) x19_1 = some r) ∧ Aside0 (kq ≤ k) ∧ Aside0 (Below w.heap.size w w'))
 case atStart => exact ⟨(0), eqNow, H', ⟨Nat.le_refl _⟩, ⟨belNow⟩⟩
 case round =>
  clear H'
  try clear c1
  obtain ⟨x19_1, rfl, HA, HK1, HB⟩ := hrel
  cases gk with
  | zero => exact absurd HA.out (by simp [hunks_Order.l0])
  | succ k1 =>
   have H := HA.out
   clear HA
   simp only [hunks_Order.l0] at H
   by_cases c2 : x19_1 < (l0.length : Int)
   ·rw [if_pos c2] at H
    have c2b0 : decide (x19_1 < (l0.length : Int)) = true := decide_eq_true c2
    clear c2
    by_cases c3 : 0 ≤ x19_1
    rotate_left
    ·rw [if_neg c3] at H
     exact absurd H (by simp)
    rw [if_pos c3] at H
    have c3b0 : decide (0 ≤ x19_1) = true := decide_eq_true c3
    clear c3
    by_cases c4 : x19_1 < (l0.length : Int)
    rotate_left
    ·rw [if_neg c4] at H
     exact absurd H (by simp)
    rw [if_pos c4] at H
    have c4b0 : decide (x19_1 < (l0.length : Int)) = true := decide_eq_true c4
    clear c4
    replace H := Option.bind_eq_some_iff.mp H
    obtain ⟨t169, A50, H⟩ := H
    replace H : (if t169.isNone = true then (hunks_Order.l0 k1 l0 l0 (l0.length : Int) (wrap64 (x19_1 + 1))) else (some (some (t169.getD 0)))) = some r := H
    have A5 := Aside0.mk A50
    clear A50
    rcases t169 with _ | q170
    ·have H1 : (hunks_Order.l0 k1 l0 l0 (l0.length : Int) (wrap64 (x19_1 + 1))) = some r := by rw [if_pos (show (none : Option Int).isNone = true by rfl)] at H; exact H
     clear H
     have H := H1
     clear H1
     try simp only [errW_none, errW_some]
     have H' := Aside0.mk H
     clear H
     have p167 : 0 ≤ (x19_1 : Int) := ofDec
     have q167 : x19_1 < (l0.length : Int) := ofDec
     obtain ⟨ad167, A167_5, c167_5, e167, hx167_0, hx167_1, hx167_2, hx167_3, hx167_4, hx167_5, hl167_5, hi167_5⟩ := at_T29 HR0.out x19_1 p167 q167
     cases e167
     replace hx167_0 := cUp HB.out hx167_0
     replace hx167_1 := cUp HB.out hx167_1
     replace hx167_2 := cUp HB.out hx167_2
     replace hx167_3 := cUp HB.out hx167_3
     replace hx167_4 := cUp HB.out hx167_4
     replace hx167_5 := cUp HB.out hx167_5
     have HR167_5 := Aside0.mk hi167_5
     have HC167_5 := Aside0.mk hl167_5
     clear hi167_5 hl167_5
     replace p167 := eq_true p167
     replace q167 := eq_true q167
     go_wp2_with (first | ((with_reducible refine gate_dst (N := 4) rfl ?_); refine boxEv (N := 4) #[.int .i64 0, .int .i64 0, .int .i64 0, .int .i64 0, .string (⟨#[]⟩ : ByteArray), .slice none 0 0] 29 ?_; intro gb168 hg w6 hbox hb; have n0_ := Aside0.mk (below_step belNow hb); have n1_ := Aside0.mk (hbox); have n2_ := Aside0.mk (bszNow (w := w) hg); have n3_ := Aside0.mk (bszNow (w := w) hg); clear HB; have HB := n0_; have BK168 := n1_; have GW168 := n2_; have GE168 := n3_; clear n0_ n1_ n2_ n3_; clear hb hbox hg; have hcz7_0 : w6.cell? ⟨gb168, 0, none⟩ = some (.int .i64 0) := (blk_cell BK168.out 0).trans rfl; have hcz7_1 : w6.cell? ⟨gb168, 1, none⟩ = some (.int .i64 0) := (blk_cell BK168.out 1).trans rfl; have hcz7_2 : w6.cell? ⟨gb168, 2, none⟩ = some (.int .i64 0) := (blk_cell BK168.out 2).trans rfl; have hcz7_3 : w6.cell? ⟨gb168, 3, none⟩ = some (.int .i64 0) := (blk_cell BK168.out 3).trans rfl; have hcz7_4 : w6.cell? ⟨gb168, 4, none⟩ = some (.string (⟨#[]⟩ : ByteArray)) := (blk_cell BK168.out 4).trans rfl; have hcz7_5 : w6.cell? ⟨gb168, 5, none⟩ = some (.slice none 0 0) := (blk_cell BK168.out 5).trans rfl; have hfz7_0 := blk_frozen BK168.out 0; have hfz7_1 := blk_frozen BK168.out 1; have hfz7_2 := blk_frozen BK168.out 2; have hfz7_3 := blk_frozen BK168.out 3; have hfz7_4 := blk_frozen BK168.out 4; have hfz7_5 := blk_frozen BK168.out 5) | (go_at_call 12; (with_reducible refine (hunks_Valid.calls ((rd_T29 l0 x19_1).f0) ((rd_T29 l0 x19_1).f1) ((rd_T29 l0 x19_1).f2) ((rd_T29 l0 x19_1).f3) ((rd_T29 l0 x19_1).f4) _ _ ((rd_T29 l0 x19_1).f5) none _ ?side1 ?side2 A5.out).mono ?_); (case side1 => exact Kd.C_below HR167_5.out (belPut)); (case side2 => exact HC167_5.out); rintro e w8 ⟨rfl, hb⟩; have n0_ := Aside0.mk (blk_below (g := gb168) (o := .cells #[.int .i64 ((rd_T29 l0 x19_1).f0), .int .i64 ((rd_T29 l0 x19_1).f1), .int .i64 ((rd_T29 l0 x19_1).f2), .int .i64 ((rd_T29 l0 x19_1).f3), .string ((rd_T29 l0 x19_1).f4), .slice A167_5 ((rd_T29 l0 x19_1).f5).length c167_5] 29 (0, 0)) (by refine bkUp ?_; refine blk_put (cs := #[.int .i64 ((rd_T29 l0 x19_1).f0), .int .i64 ((rd_T29 l0 x19_1).f1), .int .i64 ((rd_T29 l0 x19_1).f2), .int .i64 ((rd_T29 l0 x19_1).f3), .string ((rd_T29 l0 x19_1).f4), .slice none 0 0]) ?_ 5 _ rfl; refine bkUp ?_; refine blk_put (cs := #[.int .i64 ((rd_T29 l0 x19_1).f0), .int .i64 ((rd_T29 l0 x19_1).f1), .int .i64 ((rd_T29 l0 x19_1).f2), .int .i64 ((rd_T29 l0 x19_1).f3), .string (⟨#[]⟩ : ByteArray), .slice none 0 0]) ?_ 4 _ rfl; refine bkUp ?_; refine blk_put (cs := #[.int .i64 ((rd_T29 l0 x19_1).f0), .int .i64 ((rd_T29 l0 x19_1).f1), .int .i64 ((rd_T29 l0 x19_1).f2), .int .i64 0, .string (⟨#[]⟩ : ByteArray), .slice none 0 0]) ?_ 3 _ rfl; refine bkUp ?_; refine blk_put (cs := #[.int .i64 ((rd_T29 l0 x19_1).f0), .int .i64 ((rd_T29 l0 x19_1).f1), .int .i64 0, .int .i64 0, .string (⟨#[]⟩ : ByteArray), .slice none 0 0]) ?_ 2 _ rfl; refine bkUp ?_; refine blk_put (cs := #[.int .i64 ((rd_T29 l0 x19_1).f0), .int .i64 0, .int .i64 0, .int .i64 0, .string (⟨#[]⟩ : ByteArray), .slice none 0 0]) ?_ 1 _ rfl; refine bkUp ?_; refine blk_put (cs := #[.int .i64 0, .int .i64 0, .int .i64 0, .int .i64 0, .string (⟨#[]⟩ : ByteArray), .slice none 0 0]) ?_ 0 _ rfl; exact bkUp BK168.out) hb); have n1_ := Aside0.mk (below_step (belPut) hb); clear BK168 HB; have BK168 := n0_; have HB := n1_; clear n0_ n1_; (try clear hb); (try clear hb2); (try clear hk); (try clear hi); (try simp only [errW_none, errW_some])))
     repeat (go_quiet (fail); try go_wp2_with (fail))
     go_roundg k1
     case measure => have := HK1.out; omega
     case rel => exact ⟨(wrap64 (x19_1 + 1)), eqNow, H', ⟨by have := HK1.out; omega⟩, ⟨belPut⟩⟩
    have H1 : (some (some q170)) = some r := by rw [if_neg (show ¬ (some q170).isNone = true by simp)] at H; exact H
    clear H
    have H := H1
    clear H1
    try simp only [errW_none, errW_some]
    obtain rfl := Option.some.inj H
    have p167 : 0 ≤ (x19_1 : Int) := ofDec
    have q167 : x19_1 < (l0.length : Int) := ofDec
    obtain ⟨ad167, A167_5, c167_5, e167, hx167_0, hx167_1, hx167_2, hx167_3, hx167_4, hx167_5, hl167_5, hi167_5⟩ := at_T29 HR0.out x19_1 p167 q167
    cases e167
    replace hx167_0 := cUp HB.out hx167_0
    replace hx167_1 := cUp HB.out hx167_1
    replace hx167_2 := cUp HB.out hx167_2
    replace hx167_3 := cUp HB.out hx167_3
    replace hx167_4 := cUp HB.out hx167_4
    replace hx167_5 := cUp HB.out hx167_5
    have HR167_5 := Aside0.mk hi167_5
    have HC167_5 := Aside0.mk hl167_5
    clear hi167_5 hl167_5
    replace p167 := eq_true p167
    replace q167 := eq_true q167
    go_wp2_with (first | ((with_reducible refine gate_dst (N := 4) rfl ?_); refine boxEv (N := 4) #[.int .i64 0, .int .i64 0, .int .i64 0, .int .i64 0, .string (⟨#[]⟩ : ByteArray), .slice none 0 0] 29 ?_; intro gb168 hg w9 hbox hb; have n0_ := Aside0.mk (below_step belNow hb); have n1_ := Aside0.mk (hbox); have n2_ := Aside0.mk (bszNow (w := w) hg); have n3_ := Aside0.mk (bszNow (w := w) hg); clear HB; have HB := n0_; have BK168 := n1_; have GW168 := n2_; have GE168 := n3_; clear n0_ n1_ n2_ n3_; clear hb hbox hg; have hcz10_0 : w9.cell? ⟨gb168, 0, none⟩ = some (.int .i64 0) := (blk_cell BK168.out 0).trans rfl; have hcz10_1 : w9.cell? ⟨gb168, 1, none⟩ = some (.int .i64 0) := (blk_cell BK168.out 1).trans rfl; have hcz10_2 : w9.cell? ⟨gb168, 2, none⟩ = some (.int .i64 0) := (blk_cell BK168.out 2).trans rfl; have hcz10_3 : w9.cell? ⟨gb168, 3, none⟩ = some (.int .i64 0) := (blk_cell BK168.out 3).trans rfl; have hcz10_4 : w9.cell? ⟨gb168, 4, none⟩ = some (.string (⟨#[]⟩ : ByteArray)) := (blk_cell BK168.out 4).trans rfl; have hcz10_5 : w9.cell? ⟨gb168, 5, none⟩ = some (.slice none 0 0) := (blk_cell BK168.out 5).trans rfl; have hfz10_0 := blk_frozen BK168.out 0; have hfz10_1 := blk_frozen BK168.out 1; have hfz10_2 := blk_frozen BK168.out 2; have hfz10_3 := blk_frozen BK168.out 3; have hfz10_4 := blk_frozen BK168.out 4; have hfz10_5 := blk_frozen BK168.out 5) | (go_at_call 12; (with_reducible refine (hunks_Valid.calls ((rd_T29 l0 x19_1).f0) ((rd_T29 l0 x19_1).f1) ((rd_T29 l0 x19_1).f2) ((rd_T29 l0 x19_1).f3) ((rd_T29 l0 x19_1).f4) _ _ ((rd_T29 l0 x19_1).f5) (some q170) _ ?side1 ?side2 A5.out).mono ?_); (case side1 => exact Kd.C_below HR167_5.out (belPut)); (case side2 => exact HC167_5.out); rintro e w11 ⟨rfl, hb⟩; have n0_ := Aside0.mk (blk_below (g := gb168) (o := .cells #[.int .i64 ((rd_T29 l0 x19_1).f0), .int .i64 ((rd_T29 l0 x19_1).f1), .int .i64 ((rd_T29 l0 x19_1).f2), .int .i64 ((rd_T29 l0 x19_1).f3), .string ((rd_T29 l0 x19_1).f4), .slice A167_5 ((rd_T29 l0 x19_1).f5).length c167_5] 29 (0, 0)) (by refine bkUp ?_; refine blk_put (cs := #[.int .i64 ((rd_T29 l0 x19_1).f0), .int .i64 ((rd_T29 l0 x19_1).f1), .int .i64 ((rd_T29 l0 x19_1).f2), .int .i64 ((rd_T29 l0 x19_1).f3), .string ((rd_T29 l0 x19_1).f4), .slice none 0 0]) ?_ 5 _ rfl; refine bkUp ?_; refine blk_put (cs := #[.int .i64 ((rd_T29 l0 x19_1).f0), .int .i64 ((rd_T29 l0 x19_1).f1), .int .i64 ((rd_T29 l0 x19_1).f2), .int .i64 ((rd_T29 l0 x19_1).f3), .string (⟨#[]⟩ : ByteArray), .slice none 0 0]) ?_ 4 _ rfl; refine bkUp ?_; refine blk_put (cs := #[.int .i64 ((rd_T29 l0 x19_1).f0), .int .i64 ((rd_T29 l0 x19_1).f1), .int .i64 ((rd_T29 l0 x19_1).f2), .int .i64 0, .string (⟨#[]⟩ : ByteArray), .slice none 0 0]) ?_ 3 _ rfl; refine bkUp ?_; refine blk_put (cs := #[.int .i64 ((rd_T29 l0 x19_1).f0), .int .i64 ((rd_T29 l0 x19_1).f1), .int .i64 0, .int .i64 0, .string (⟨#[]⟩ : ByteArray), .slice none 0 0]) ?_ 2 _ rfl; refine bkUp ?_; refine blk_put (cs := #[.int .i64 ((rd_T29 l0 x19_1).f0), .int .i64 0, .int .i64 0, .int .i64 0, .string (⟨#[]⟩ : ByteArray), .slice none 0 0]) ?_ 1 _ rfl; refine bkUp ?_; refine blk_put (cs := #[.int .i64 0, .int .i64 0, .int .i64 0, .int .i64 0, .string (⟨#[]⟩ : ByteArray), .slice none 0 0]) ?_ 0 _ rfl; exact bkUp BK168.out) hb); have n1_ := Aside0.mk (below_step (belPut) hb); clear BK168 HB; have BK168 := n0_; have HB := n1_; clear n0_ n1_; (try clear hb); (try clear hb2); (try clear hk); (try clear hi); (try simp only [errW_none, errW_some])))
    repeat (go_quiet (fail); try go_wp2_with (fail))
    go_ret
    exact ⟨eqEnd, belPut⟩
   rw [if_neg c2] at H
   have c2b0 : decide (x19_1 < (l0.length : Int)) = false := decide_eq_false c2
   clear c2
   have H' := Aside0.mk H
   clear H
   go_wp2
   repeat (go_quiet (fail); try go_wp2)
   go_loopg [6, 7, 8, 9, 31] k1 (fun kq v6 v7 v8 v9 v31 w' => ∃ (x6_2 : Int) (x7_2 : Int) (x8_2 : Bool) (x9_2 : Bool) (x31_2 : Int), v6 = .int .i64 x6_2 ∧ v7 = .int .i64 x7_2 ∧ v8 = .bool x8_2 ∧ v9 = .bool x9_2 ∧ v31 = .int .i64 x31_2 ∧ Aside0 (hunks_Order.l1 kq x6_2 x7_2 x8_2 x9_2 l0 (l0.length : Int) x31_2 = some r) ∧ Aside0 (kq ≤ k1) ∧ Aside0 (Below w.heap.size w w'))
   case atStart => exact ⟨(0), (0), (false), (false), (0), eqNow, eqNow, eqNow, eqNow, eqNow, H', ⟨Nat.le_refl _⟩, ⟨belNow⟩⟩
   case round =>
    clear H'
    try clear c1
    try clear p1
    try clear q1
    try clear hx1
    try clear c2
    try clear c2b0
    try clear p2
    try clear c3
    try clear c3b0
    try clear c4
    try clear c4b0
    try clear p6
    try clear hcz10_0 hcz10_1 hcz10_2 hcz10_3 hcz10_4 hcz10_5
    try clear hcz7_0 hcz7_1 hcz7_2 hcz7_3 hcz7_4 hcz7_5
    try clear hfz10_0 hfz10_1 hfz10_2 hfz10_3 hfz10_4 hfz10_5
    try clear hfz7_0 hfz7_1 hfz7_2 hfz7_3 hfz7_4 hfz7_5
    try clear hx167_0
    try clear hx167_1
    try clear hx167_2
    try clear hx167_3
    try clear hx167_4
    try clear hx167_5
    try clear p167
    try clear q167
    try clear q170
    obtain ⟨x6_2, x7_2, x8_2, x9_2, x31_2, rfl, rfl, rfl, rfl, rfl, HA, HK2, HB⟩ := hrel
    cases gk with
    | zero => exact absurd HA.out (by simp [hunks_Order.l1])
    | succ k2 =>
     have H := HA.out
     clear HA
     simp only [hunks_Order.l1] at H
     by_cases c12 : x31_2 < (l0.length : Int)
     rotate_left
     ·rw [if_neg c12] at H
      have c12b0 : decide (x31_2 < (l0.length : Int)) = false := decide_eq_false c12
      clear c12
      obtain rfl := Option.some.inj H
      go_wp2
      repeat (go_quiet (fail); try go_wp2)
      go_ret
      exact ⟨eqEnd, belNow⟩
     rw [if_pos c12] at H
     have c12b0 : decide (x31_2 < (l0.length : Int)) = true := decide_eq_true c12
     clear c12
     by_cases c13 : 0 ≤ x31_2
     rotate_left
     ·rw [if_neg c13] at H
      exact absurd H (by simp)
     rw [if_pos c13] at H
     have c13b0 : decide (0 ≤ x31_2) = true := decide_eq_true c13
     clear c13
     by_cases c14 : x31_2 < (l0.length : Int)
     rotate_left
     ·rw [if_neg c14] at H
      exact absurd H (by simp)
     rw [if_pos c14] at H
     have c14b0 : decide (x31_2 < (l0.length : Int)) = true := decide_eq_true c14
     clear c14
     replace H := Option.bind_eq_some_iff.mp H
     obtain ⟨t173, A150, H⟩ := H
     replace H : ((hunks_ahead.f ((rd_T29 l0 x31_2).f2) ((rd_T29 l0 x31_2).f3)).bind fun t174 => (if t173 < x6_2 then (some (some 112)) else (if t174 < x7_2 then (some (some 112)) else (if (wrap64 (t173 - t174)) = (wrap64 (x6_2 - x7_2)) then (if x8_2 = true then (if ((rd_T29 l0 x31_2).f1) > 0 then (some (some 112)) else (if x9_2 = true then (if ((rd_T29 l0 x31_2).f3) > 0 then (some (some 112)) else ((hunks_sides.f ((rd_T29 l0 x31_2).f0) ((rd_T29 l0 x31_2).f1) ((rd_T29 l0 x31_2).f2) ((rd_T29 l0 x31_2).f3) ((rd_T29 l0 x31_2).f4) ((rd_T29 l0 x31_2).f5)).bind fun bt175 => (hunks_Order.l1 k2 (wrap64 (t173 + ((rd_T29 l0 x31_2).f1))) (wrap64 (t174 + ((rd_T29 l0 x31_2).f3))) true true l0 (l0.length : Int) (wrap64 (x31_2 + 1))))) else ((hunks_sides.f ((rd_T29 l0 x31_2).f0) ((rd_T29 l0 x31_2).f1) ((rd_T29 l0 x31_2).f2) ((rd_T29 l0 x31_2).f3) ((rd_T29 l0 x31_2).f4) ((rd_T29 l0 x31_2).f5)).bind fun bt182 => (hunks_Order.l1 k2 (wrap64 (t173 + ((rd_T29 l0 x31_2).f1))) (wrap64 (t174 + ((rd_T29 l0 x31_2).f3))) true bt182.2.2.2.1 l0 (l0.length : Int) (wrap64 (x31_2 + 1)))))) else (if x9_2 = true then (if ((rd_T29 l0 x31_2).f3) > 0 then (some (some 112)) else ((hunks_sides.f ((rd_T29 l0 x31_2).f0) ((rd_T29 l0 x31_2).f1) ((rd_T29 l0 x31_2).f2) ((rd_T29 l0 x31_2).f3) ((rd_T29 l0 x31_2).f4) ((rd_T29 l0 x31_2).f5)).bind fun bt189 => (hunks_Order.l1 k2 (wrap64 (t173 + ((rd_T29 l0 x31_2).f1))) (wrap64 (t174 + ((rd_T29 l0 x31_2).f3))) bt189.2.1 true l0 (l0.length : Int) (wrap64 (x31_2 + 1))))) else ((hunks_sides.f ((rd_T29 l0 x31_2).f0) ((rd_T29 l0 x31_2).f1) ((rd_T29 l0 x31_2).f2) ((rd_T29 l0 x31_2).f3) ((rd_T29 l0 x31_2).f4) ((rd_T29 l0 x31_2).f5)).bind fun bt196 => (hunks_Order.l1 k2 (wrap64 (t173 + ((rd_T29 l0 x31_2).f1))) (wrap64 (t174 + ((rd_T29 l0 x31_2).f3))) bt196.2.1 bt196.2.2.2.1 l0 (l0.length : Int) (wrap64 (x31_2 + 1)))))) else (some (some 112)))))) = some r := H
     have A15 := Aside0.mk A150
     clear A150
     replace H := Option.bind_eq_some_iff.mp H
     obtain ⟨t174, A160, H⟩ := H
     replace H : (if t173 < x6_2 then (some (some 112)) else (if t174 < x7_2 then (some (some 112)) else (if (wrap64 (t173 - t174)) = (wrap64 (x6_2 - x7_2)) then (if x8_2 = true then (if ((rd_T29 l0 x31_2).f1) > 0 then (some (some 112)) else (if x9_2 = true then (if ((rd_T29 l0 x31_2).f3) > 0 then (some (some 112)) else ((hunks_sides.f ((rd_T29 l0 x31_2).f0) ((rd_T29 l0 x31_2).f1) ((rd_T29 l0 x31_2).f2) ((rd_T29 l0 x31_2).f3) ((rd_T29 l0 x31_2).f4) ((rd_T29 l0 x31_2).f5)).bind fun bt175 => (hunks_Order.l1 k2 (wrap64 (t173 + ((rd_T29 l0 x31_2).f1))) (wrap64 (t174 + ((rd_T29 l0 x31_2).f3))) true true l0 (l0.length : Int) (wrap64 (x31_2 + 1))))) else ((hunks_sides.f ((rd_T29 l0 x31_2).f0) ((rd_T29 l0 x31_2).f1) ((rd_T29 l0 x31_2).f2) ((rd_T29 l0 x31_2).f3) ((rd_T29 l0 x31_2).f4) ((rd_T29 l0 x31_2).f5)).bind fun bt182 => (hunks_Order.l1 k2 (wrap64 (t173 + ((rd_T29 l0 x31_2).f1))) (wrap64 (t174 + ((rd_T29 l0 x31_2).f3))) true bt182.2.2.2.1 l0 (l0.length : Int) (wrap64 (x31_2 + 1)))))) else (if x9_2 = true then (if ((rd_T29 l0 x31_2).f3) > 0 then (some (some 112)) else ((hunks_sides.f ((rd_T29 l0 x31_2).f0) ((rd_T29 l0 x31_2).f1) ((rd_T29 l0 x31_2).f2) ((rd_T29 l0 x31_2).f3) ((rd_T29 l0 x31_2).f4) ((rd_T29 l0 x31_2).f5)).bind fun bt189 => (hunks_Order.l1 k2 (wrap64 (t173 + ((rd_T29 l0 x31_2).f1))) (wrap64 (t174 + ((rd_T29 l0 x31_2).f3))) bt189.2.1 true l0 (l0.length : Int) (wrap64 (x31_2 + 1))))) else ((hunks_sides.f ((rd_T29 l0 x31_2).f0) ((rd_T29 l0 x31_2).f1) ((rd_T29 l0 x31_2).f2) ((rd_T29 l0 x31_2).f3) ((rd_T29 l0 x31_2).f4) ((rd_T29 l0 x31_2).f5)).bind fun bt196 => (hunks_Order.l1 k2 (wrap64 (t173 + ((rd_T29 l0 x31_2).f1))) (wrap64 (t174 + ((rd_T29 l0 x31_2).f3))) bt196.2.1 bt196.2.2.2.1 l0 (l0.length : Int) (wrap64 (x31_2 + 1)))))) else (some (some 112))))) = some r := H
     have A16 := Aside0.mk A160
     clear A160
     by_cases c17 : t173 < x6_2
     ·rw [if_pos c17] at H
      have c17b0 : decide (t173 < x6_2) = true := decide_eq_true c17
      clear c17
      obtain rfl := Option.some.inj H
      have p171 : 0 ≤ (x31_2 : Int) := ofDec
      have q171 : x31_2 < (l0.length : Int) := ofDec
      obtain ⟨ad171, A171_5, c171_5, e171, hx171_0, hx171_1, hx171_2, hx171_3, hx171_4, hx171_5, hl171_5, hi171_5⟩ := at_T29 HR0.out x31_2 p171 q171
      cases e171
      replace hx171_0 := cUp HB.out hx171_0
      replace hx171_1 := cUp HB.out hx171_1
      replace hx171_2 := cUp HB.out hx171_2
      replace hx171_3 := cUp HB.out hx171_3
      replace hx171_4 := cUp HB.out hx171_4
      replace hx171_5 := cUp HB.out hx171_5
      have HR171_5 := Aside0.mk hi171_5
      have HC171_5 := Aside0.mk hl171_5
      clear hi171_5 hl171_5
      replace p171 := eq_true p171
      replace q171 := eq_true q171
      go_wp2_with (((with_reducible refine gate_dst (N := 11) rfl ?_); refine boxEv (N := 11) #[.int .i64 0, .int .i64 0, .int .i64 0, .int .i64 0, .string (⟨#[]⟩ : ByteArray), .slice none 0 0] 29 ?_; intro gb172 hg w18 hbox hb; have n0_ := Aside0.mk (below_step belNow hb); have n1_ := Aside0.mk (hbox); have n2_ := Aside0.mk (bszNow (w := w) hg); have n3_ := Aside0.mk (bszNow (w := w) hg); clear HB; have HB := n0_; have BK172 := n1_; have GW172 := n2_; have GE172 := n3_; clear n0_ n1_ n2_ n3_; clear hb hbox hg; have hcz19_0 : w18.cell? ⟨gb172, 0, none⟩ = some (.int .i64 0) := (blk_cell BK172.out 0).trans rfl; have hcz19_1 : w18.cell? ⟨gb172, 1, none⟩ = some (.int .i64 0) := (blk_cell BK172.out 1).trans rfl; have hcz19_2 : w18.cell? ⟨gb172, 2, none⟩ = some (.int .i64 0) := (blk_cell BK172.out 2).trans rfl; have hcz19_3 : w18.cell? ⟨gb172, 3, none⟩ = some (.int .i64 0) := (blk_cell BK172.out 3).trans rfl; have hcz19_4 : w18.cell? ⟨gb172, 4, none⟩ = some (.string (⟨#[]⟩ : ByteArray)) := (blk_cell BK172.out 4).trans rfl; have hcz19_5 : w18.cell? ⟨gb172, 5, none⟩ = some (.slice none 0 0) := (blk_cell BK172.out 5).trans rfl; have hfz19_0 := blk_frozen BK172.out 0; have hfz19_1 := blk_frozen BK172.out 1; have hfz19_2 := blk_frozen BK172.out 2; have hfz19_3 := blk_frozen BK172.out 3; have hfz19_4 := blk_frozen BK172.out 4; have hfz19_5 := blk_frozen BK172.out 5))
      repeat (go_quiet (first | (go_at_call 46; (with_reducible refine (hunks_ahead.calls ((rd_T29 l0 x31_2).f0) ((rd_T29 l0 x31_2).f1) t173 _ A15.out).mono ?_); rintro e w' ⟨rfl, ⟨nd, rfl⟩⟩; (try first | exact ⟨rfl, _, World.drewN_drewN _ _ _⟩ | exact ⟨rfl, _, Eq.trans (World.drewN_drewN _ _ _) (congrArg (World.drewN _) (Nat.add_assoc _ _ _))⟩)) | (go_at_call 46; (with_reducible refine (hunks_ahead.calls ((rd_T29 l0 x31_2).f2) ((rd_T29 l0 x31_2).f3) t174 _ A16.out).mono ?_); rintro e w' ⟨rfl, ⟨nd, rfl⟩⟩; (try first | exact ⟨rfl, _, World.drewN_drewN _ _ _⟩ | exact ⟨rfl, _, Eq.trans (World.drewN_drewN _ _ _) (congrArg (World.drewN _) (Nat.add_assoc _ _ _))⟩))); try go_wp2_with (fail))
      go_ret
      exact ⟨eqEnd, belPut⟩
     rw [if_neg c17] at H
     have c17b0 : decide (t173 < x6_2) = false := decide_eq_false c17
     clear c17
     by_cases c20 : t174 < x7_2
     ·rw [if_pos c20] at H
      have c20b0 : decide (t174 < x7_2) = true := decide_eq_true c20
      clear c20
      obtain rfl := Option.some.inj H
      have p171 : 0 ≤ (x31_2 : Int) := ofDec
      have q171 : x31_2 < (l0.length : Int) := ofDec
      obtain ⟨ad171, A171_5, c171_5, e171, hx171_0, hx171_1, hx171_2, hx171_3, hx171_4, hx171_5, hl171_5, hi171_5⟩ := at_T29 HR0.out x31_2 p171 q171
      cases e171
      replace hx171_0 := cUp HB.out hx171_0
      replace hx171_1 := cUp HB.out hx171_1
      replace hx171_2 := cUp HB.out hx171_2
      replace hx171_3 := cUp HB.out hx171_3
      replace hx171_4 := cUp HB.out hx171_4
      replace hx171_5 := cUp HB.out hx171_5
      have HR171_5 := Aside0.mk hi171_5
      have HC171_5 := Aside0.mk hl171_5
      clear hi171_5 hl171_5
      replace p171 := eq_true p171
      replace q171 := eq_true q171
      go_wp2_with (((with_reducible refine gate_dst (N := 11) rfl ?_); refine boxEv (N := 11) #[.int .i64 0, .int .i64 0, .int .i64 0, .int .i64 0, .string (⟨#[]⟩ : ByteArray), .slice none 0 0] 29 ?_; intro gb172 hg w21 hbox hb; have n0_ := Aside0.mk (below_step belNow hb); have n1_ := Aside0.mk (hbox); have n2_ := Aside0.mk (bszNow (w := w) hg); have n3_ := Aside0.mk (bszNow (w := w) hg); clear HB; have HB := n0_; have BK172 := n1_; have GW172 := n2_; have GE172 := n3_; clear n0_ n1_ n2_ n3_; clear hb hbox hg; have hcz22_0 : w21.cell? ⟨gb172, 0, none⟩ = some (.int .i64 0) := (blk_cell BK172.out 0).trans rfl; have hcz22_1 : w21.cell? ⟨gb172, 1, none⟩ = some (.int .i64 0) := (blk_cell BK172.out 1).trans rfl; have hcz22_2 : w21.cell? ⟨gb172, 2, none⟩ = some (.int .i64 0) := (blk_cell BK172.out 2).trans rfl; have hcz22_3 : w21.cell? ⟨gb172, 3, none⟩ = some (.int .i64 0) := (blk_cell BK172.out 3).trans rfl; have hcz22_4 : w21.cell? ⟨gb172, 4, none⟩ = some (.string (⟨#[]⟩ : ByteArray)) := (blk_cell BK172.out 4).trans rfl; have hcz22_5 : w21.cell? ⟨gb172, 5, none⟩ = some (.slice none 0 0) := (blk_cell BK172.out 5).trans rfl; have hfz22_0 := blk_frozen BK172.out 0; have hfz22_1 := blk_frozen BK172.out 1; have hfz22_2 := blk_frozen BK172.out 2; have hfz22_3 := blk_frozen BK172.out 3; have hfz22_4 := blk_frozen BK172.out 4; have hfz22_5 := blk_frozen BK172.out 5))
      repeat (go_quiet (first | (go_at_call 46; (with_reducible refine (hunks_ahead.calls ((rd_T29 l0 x31_2).f0) ((rd_T29 l0 x31_2).f1) t173 _ A15.out).mono ?_); rintro e w' ⟨rfl, ⟨nd, rfl⟩⟩; (try first | exact ⟨rfl, _, World.drewN_drewN _ _ _⟩ | exact ⟨rfl, _, Eq.trans (World.drewN_drewN _ _ _) (congrArg (World.drewN _) (Nat.add_assoc _ _ _))⟩)) | (go_at_call 46; (with_reducible refine (hunks_ahead.calls ((rd_T29 l0 x31_2).f2) ((rd_T29 l0 x31_2).f3) t174 _ A16.out).mono ?_); rintro e w' ⟨rfl, ⟨nd, rfl⟩⟩; (try first | exact ⟨rfl, _, World.drewN_drewN _ _ _⟩ | exact ⟨rfl, _, Eq.trans (World.drewN_drewN _ _ _) (congrArg (World.drewN _) (Nat.add_assoc _ _ _))⟩))); try go_wp2_with (fail))
      go_ret
      exact ⟨eqEnd, belPut⟩
     rw [if_neg c20] at H
     have c20b0 : decide (t174 < x7_2) = false := decide_eq_false c20
     clear c20
     by_cases c23 : (wrap64 (t173 - t174)) = (wrap64 (x6_2 - x7_2))
     rotate_left
     ·rw [if_neg c23] at H
      have c23b0 : ((wrap64 (t173 - t174)) == (wrap64 (x6_2 - x7_2))) = false := beq_eq_false_iff_ne.mpr c23
      have c23b1 : ((wrap64 (t173 - t174)) != (wrap64 (x6_2 - x7_2))) = true := bne_iff_ne.mpr c23
      obtain rfl := Option.some.inj H
      have p171 : 0 ≤ (x31_2 : Int) := ofDec
      have q171 : x31_2 < (l0.length : Int) := ofDec
      obtain ⟨ad171, A171_5, c171_5, e171, hx171_0, hx171_1, hx171_2, hx171_3, hx171_4, hx171_5, hl171_5, hi171_5⟩ := at_T29 HR0.out x31_2 p171 q171
      cases e171
      replace hx171_0 := cUp HB.out hx171_0
      replace hx171_1 := cUp HB.out hx171_1
      replace hx171_2 := cUp HB.out hx171_2
      replace hx171_3 := cUp HB.out hx171_3
      replace hx171_4 := cUp HB.out hx171_4
      replace hx171_5 := cUp HB.out hx171_5
      have HR171_5 := Aside0.mk hi171_5
      have HC171_5 := Aside0.mk hl171_5
      clear hi171_5 hl171_5
      replace p171 := eq_true p171
      replace q171 := eq_true q171
      go_wp2_with (((with_reducible refine gate_dst (N := 11) rfl ?_); refine boxEv (N := 11) #[.int .i64 0, .int .i64 0, .int .i64 0, .int .i64 0, .string (⟨#[]⟩ : ByteArray), .slice none 0 0] 29 ?_; intro gb172 hg w84 hbox hb; have n0_ := Aside0.mk (below_step belNow hb); have n1_ := Aside0.mk (hbox); have n2_ := Aside0.mk (bszNow (w := w) hg); have n3_ := Aside0.mk (bszNow (w := w) hg); clear HB; have HB := n0_; have BK172 := n1_; have GW172 := n2_; have GE172 := n3_; clear n0_ n1_ n2_ n3_; clear hb hbox hg; have hcz85_0 : w84.cell? ⟨gb172, 0, none⟩ = some (.int .i64 0) := (blk_cell BK172.out 0).trans rfl; have hcz85_1 : w84.cell? ⟨gb172, 1, none⟩ = some (.int .i64 0) := (blk_cell BK172.out 1).trans rfl; have hcz85_2 : w84.cell? ⟨gb172, 2, none⟩ = some (.int .i64 0) := (blk_cell BK172.out 2).trans rfl; have hcz85_3 : w84.cell? ⟨gb172, 3, none⟩ = some (.int .i64 0) := (blk_cell BK172.out 3).trans rfl; have hcz85_4 : w84.cell? ⟨gb172, 4, none⟩ = some (.string (⟨#[]⟩ : ByteArray)) := (blk_cell BK172.out 4).trans rfl; have hcz85_5 : w84.cell? ⟨gb172, 5, none⟩ = some (.slice none 0 0) := (blk_cell BK172.out 5).trans rfl; have hfz85_0 := blk_frozen BK172.out 0; have hfz85_1 := blk_frozen BK172.out 1; have hfz85_2 := blk_frozen BK172.out 2; have hfz85_3 := blk_frozen BK172.out 3; have hfz85_4 := blk_frozen BK172.out 4; have hfz85_5 := blk_frozen BK172.out 5))
      repeat (go_quiet (first | (go_at_call 46; (with_reducible refine (hunks_ahead.calls ((rd_T29 l0 x31_2).f0) ((rd_T29 l0 x31_2).f1) t173 _ A15.out).mono ?_); rintro e w' ⟨rfl, ⟨nd, rfl⟩⟩; (try first | exact ⟨rfl, _, World.drewN_drewN _ _ _⟩ | exact ⟨rfl, _, Eq.trans (World.drewN_drewN _ _ _) (congrArg (World.drewN _) (Nat.add_assoc _ _ _))⟩)) | (go_at_call 46; (with_reducible refine (hunks_ahead.calls ((rd_T29 l0 x31_2).f2) ((rd_T29 l0 x31_2).f3) t174 _ A16.out).mono ?_); rintro e w' ⟨rfl, ⟨nd, rfl⟩⟩; (try first | exact ⟨rfl, _, World.drewN_drewN _ _ _⟩ | exact ⟨rfl, _, Eq.trans (World.drewN_drewN _ _ _) (congrArg (World.drewN _) (Nat.add_assoc _ _ _))⟩))); try go_wp2_with (fail))
      go_ret
      exact ⟨eqEnd, belPut⟩
     rw [if_pos c23] at H
     have c23b0 : ((wrap64 (t173 - t174)) == (wrap64 (x6_2 - x7_2))) = true := beq_iff_eq.mpr c23
     have c23b1 : ((wrap64 (t173 - t174)) != (wrap64 (x6_2 - x7_2))) = false := bne_eq_false_iff_eq.mpr c23
     clear c23
     by_cases c24 : x8_2 = true
     rotate_left
     ·replace c24 := Bool.eq_false_iff.mpr c24
      subst c24
      have H1 : (if x9_2 = true then (if ((rd_T29 l0 x31_2).f3) > 0 then (some (some 112)) else ((hunks_sides.f ((rd_T29 l0 x31_2).f0) ((rd_T29 l0 x31_2).f1) ((rd_T29 l0 x31_2).f2) ((rd_T29 l0 x31_2).f3) ((rd_T29 l0 x31_2).f4) ((rd_T29 l0 x31_2).f5)).bind fun bt189 => (hunks_Order.l1 k2 (wrap64 (t173 + ((rd_T29 l0 x31_2).f1))) (wrap64 (t174 + ((rd_T29 l0 x31_2).f3))) bt189.2.1 true l0 (l0.length : Int) (wrap64 (x31_2 + 1))))) else ((hunks_sides.f ((rd_T29 l0 x31_2).f0) ((rd_T29 l0 x31_2).f1) ((rd_T29 l0 x31_2).f2) ((rd_T29 l0 x31_2).f3) ((rd_T29 l0 x31_2).f4) ((rd_T29 l0 x31_2).f5)).bind fun bt196 => (hunks_Order.l1 k2 (wrap64 (t173 + ((rd_T29 l0 x31_2).f1))) (wrap64 (t174 + ((rd_T29 l0 x31_2).f3))) bt196.2.1 bt196.2.2.2.1 l0 (l0.length : Int) (wrap64 (x31_2 + 1))))) = some r := by rw [if_neg (show ¬ (false = true) by decide)] at H; exact H
      clear H
      have H := H1
      clear H1
      by_cases c56 : x9_2 = true
      rotate_left
      ·replace c56 := Bool.eq_false_iff.mpr c56
       subst c56
       have H1 : ((hunks_sides.f ((rd_T29 l0 x31_2).f0) ((rd_T29 l0 x31_2).f1) ((rd_T29 l0 x31_2).f2) ((rd_T29 l0 x31_2).f3) ((rd_T29 l0 x31_2).f4) ((rd_T29 l0 x31_2).f5)).bind fun bt196 => (hunks_Order.l1 k2 (wrap64 (t173 + ((rd_T29 l0 x31_2).f1))) (wrap64 (t174 + ((rd_T29 l0 x31_2).f3))) bt196.2.1 bt196.2.2.2.1 l0 (l0.length : Int) (wrap64 (x31_2 + 1)))) = some r := by rw [if_neg (show ¬ (false = true) by decide)] at H; exact H
       clear H
       have H := H1
       clear H1
       replace H := Option.bind_eq_some_iff.mp H
       obtain ⟨⟨t196, t197, t198, t199, t200⟩, A720, H⟩ := H
       replace H : (hunks_Order.l1 k2 (wrap64 (t173 + ((rd_T29 l0 x31_2).f1))) (wrap64 (t174 + ((rd_T29 l0 x31_2).f3))) t197 t199 l0 (l0.length : Int) (wrap64 (x31_2 + 1))) = some r := H
       have A72 := Aside0.mk A720
       clear A720
       have H' := Aside0.mk H
       clear H
       have p171 : 0 ≤ (x31_2 : Int) := ofDec
       have q171 : x31_2 < (l0.length : Int) := ofDec
       obtain ⟨ad171, A171_5, c171_5, e171, hx171_0, hx171_1, hx171_2, hx171_3, hx171_4, hx171_5, hl171_5, hi171_5⟩ := at_T29 HR0.out x31_2 p171 q171
       cases e171
       replace hx171_0 := cUp HB.out hx171_0
       replace hx171_1 := cUp HB.out hx171_1
       replace hx171_2 := cUp HB.out hx171_2
       replace hx171_3 := cUp HB.out hx171_3
       replace hx171_4 := cUp HB.out hx171_4
       replace hx171_5 := cUp HB.out hx171_5
       have HR171_5 := Aside0.mk hi171_5
       have HC171_5 := Aside0.mk hl171_5
       clear hi171_5 hl171_5
       replace p171 := eq_true p171
       replace q171 := eq_true q171
       go_wp2_with (((with_reducible refine gate_dst (N := 11) rfl ?_); refine boxEv (N := 11) #[.int .i64 0, .int .i64 0, .int .i64 0, .int .i64 0, .string (⟨#[]⟩ : ByteArray), .slice none 0 0] 29 ?_; intro gb172 hg w73 hbox hb; have n0_ := Aside0.mk (below_step belNow hb); have n1_ := Aside0.mk (hbox); have n2_ := Aside0.mk (bszNow (w := w) hg); have n3_ := Aside0.mk (bszNow (w := w) hg); clear HB; have HB := n0_; have BK172 := n1_; have GW172 := n2_; have GE172 := n3_; clear n0_ n1_ n2_ n3_; clear hb hbox hg; have hcz74_0 : w73.cell? ⟨gb172, 0, none⟩ = some (.int .i64 0) := (blk_cell BK172.out 0).trans rfl; have hcz74_1 : w73.cell? ⟨gb172, 1, none⟩ = some (.int .i64 0) := (blk_cell BK172.out 1).trans rfl; have hcz74_2 : w73.cell? ⟨gb172, 2, none⟩ = some (.int .i64 0) := (blk_cell BK172.out 2).trans rfl; have hcz74_3 : w73.cell? ⟨gb172, 3, none⟩ = some (.int .i64 0) := (blk_cell BK172.out 3).trans rfl; have hcz74_4 : w73.cell? ⟨gb172, 4, none⟩ = some (.string (⟨#[]⟩ : ByteArray)) := (blk_cell BK172.out 4).trans rfl; have hcz74_5 : w73.cell? ⟨gb172, 5, none⟩ = some (.slice none 0 0) := (blk_cell BK172.out 5).trans rfl; have hfz74_0 := blk_frozen BK172.out 0; have hfz74_1 := blk_frozen BK172.out 1; have hfz74_2 := blk_frozen BK172.out 2; have hfz74_3 := blk_frozen BK172.out 3; have hfz74_4 := blk_frozen BK172.out 4; have hfz74_5 := blk_frozen BK172.out 5))
       repeat (go_quiet (first | (go_at_call 46; (with_reducible refine (hunks_ahead.calls ((rd_T29 l0 x31_2).f0) ((rd_T29 l0 x31_2).f1) t173 _ A15.out).mono ?_); rintro e w' ⟨rfl, ⟨nd, rfl⟩⟩; (try first | exact ⟨rfl, _, World.drewN_drewN _ _ _⟩ | exact ⟨rfl, _, Eq.trans (World.drewN_drewN _ _ _) (congrArg (World.drewN _) (Nat.add_assoc _ _ _))⟩)) | (go_at_call 46; (with_reducible refine (hunks_ahead.calls ((rd_T29 l0 x31_2).f2) ((rd_T29 l0 x31_2).f3) t174 _ A16.out).mono ?_); rintro e w' ⟨rfl, ⟨nd, rfl⟩⟩; (try first | exact ⟨rfl, _, World.drewN_drewN _ _ _⟩ | exact ⟨rfl, _, Eq.trans (World.drewN_drewN _ _ _) (congrArg (World.drewN _) (Nat.add_assoc _ _ _))⟩))); try go_wp2_with (first | (go_at_call 40; (with_reducible refine (hunks_sides.calls ((rd_T29 l0 x31_2).f0) ((rd_T29 l0 x31_2).f1) ((rd_T29 l0 x31_2).f2) ((rd_T29 l0 x31_2).f3) ((rd_T29 l0 x31_2).f4) _ _ ((rd_T29 l0 x31_2).f5) t196 t197 t198 t199 t200 _ ?side1 ?side2 A72.out).mono ?_); (case side1 => exact Kd.C_below HR171_5.out (belPut)); (case side2 => exact HC171_5.out); rintro e w75 ⟨rfl, hb⟩; have n0_ := Aside0.mk (blk_below (g := gb172) (o := .cells #[.int .i64 ((rd_T29 l0 x31_2).f0), .int .i64 ((rd_T29 l0 x31_2).f1), .int .i64 ((rd_T29 l0 x31_2).f2), .int .i64 ((rd_T29 l0 x31_2).f3), .string ((rd_T29 l0 x31_2).f4), .slice A171_5 ((rd_T29 l0 x31_2).f5).length c171_5] 29 (0, 0)) (by refine bkUp ?_; refine blk_put (cs := #[.int .i64 ((rd_T29 l0 x31_2).f0), .int .i64 ((rd_T29 l0 x31_2).f1), .int .i64 ((rd_T29 l0 x31_2).f2), .int .i64 ((rd_T29 l0 x31_2).f3), .string ((rd_T29 l0 x31_2).f4), .slice none 0 0]) ?_ 5 _ rfl; refine bkUp ?_; refine blk_put (cs := #[.int .i64 ((rd_T29 l0 x31_2).f0), .int .i64 ((rd_T29 l0 x31_2).f1), .int .i64 ((rd_T29 l0 x31_2).f2), .int .i64 ((rd_T29 l0 x31_2).f3), .string (⟨#[]⟩ : ByteArray), .slice none 0 0]) ?_ 4 _ rfl; refine bkUp ?_; refine blk_put (cs := #[.int .i64 ((rd_T29 l0 x31_2).f0), .int .i64 ((rd_T29 l0 x31_2).f1), .int .i64 ((rd_T29 l0 x31_2).f2), .int .i64 0, .string (⟨#[]⟩ : ByteArray), .slice none 0 0]) ?_ 3 _ rfl; refine bkUp ?_; refine blk_put (cs := #[.int .i64 ((rd_T29 l0 x31_2).f0), .int .i64 ((rd_T29 l0 x31_2).f1), .int .i64 0, .int .i64 0, .string (⟨#[]⟩ : ByteArray), .slice none 0 0]) ?_ 2 _ rfl; refine bkUp ?_; refine blk_put (cs := #[.int .i64 ((rd_T29 l0 x31_2).f0), .int .i64 0, .int .i64 0, .int .i64 0, .string (⟨#[]⟩ : ByteArray), .slice none 0 0]) ?_ 1 _ rfl; refine bkUp ?_; refine blk_put (cs := #[.int .i64 0, .int .i64 0, .int .i64 0, .int .i64 0, .string (⟨#[]⟩ : ByteArray), .slice none 0 0]) ?_ 0 _ rfl; exact bkUp BK172.out) hb); have n1_ := Aside0.mk (below_step (belPut) hb); clear BK172 HB; have BK172 := n0_; have HB := n1_; clear n0_ n1_; (try clear hb); (try clear hb2); (try clear hk); (try clear hi)) | ((with_reducible refine gate_dst (N := 14) rfl ?_); refine boxEv (N := 14) #[.int .i64 0, .bool false] 77 ?_; intro gb201 hg w76 hbox hb; have n0_ := Aside0.mk (blk_below (g := gb172) (o := .cells #[.int .i64 ((rd_T29 l0 x31_2).f0), .int .i64 ((rd_T29 l0 x31_2).f1), .int .i64 ((rd_T29 l0 x31_2).f2), .int .i64 ((rd_T29 l0 x31_2).f3), .string ((rd_T29 l0 x31_2).f4), .slice A171_5 ((rd_T29 l0 x31_2).f5).length c171_5] 29 (0, 0)) (bkUp BK172.out) hb); have n1_ := Aside0.mk (below_step (belPut) hb); have n2_ := Aside0.mk (hbox); have n3_ := Aside0.mk ((by rw [hg]; exact (below_size (belPut)) : w.heap.size ≤ gb201)); have n4_ := Aside0.mk ((by rw [hg]; exact (below_size (belPut)) : w.heap.size ≤ gb201)); have n5_ := Aside0.mk ((by rw [hg]; exact Nat.ne_of_lt (blk_lt (g := gb172) (o := .cells #[.int .i64 ((rd_T29 l0 x31_2).f0), .int .i64 ((rd_T29 l0 x31_2).f1), .int .i64 ((rd_T29 l0 x31_2).f2), .int .i64 ((rd_T29 l0 x31_2).f3), .string ((rd_T29 l0 x31_2).f4), .slice A171_5 ((rd_T29 l0 x31_2).f5).length c171_5] 29 (0, 0)) (bkUp BK172.out)) : gb172 ≠ gb201)); have n6_ := Aside0.mk ((by rw [hg]; exact Nat.ne_of_gt (blk_lt (g := gb172) (o := .cells #[.int .i64 ((rd_T29 l0 x31_2).f0), .int .i64 ((rd_T29 l0 x31_2).f1), .int .i64 ((rd_T29 l0 x31_2).f2), .int .i64 ((rd_T29 l0 x31_2).f3), .string ((rd_T29 l0 x31_2).f4), .slice A171_5 ((rd_T29 l0 x31_2).f5).length c171_5] 29 (0, 0)) (bkUp BK172.out)) : gb201 ≠ gb172)); clear BK172 HB; have BK172 := n0_; have HB := n1_; have BK201 := n2_; have GW201 := n3_; have GE201 := n4_; have NB172_201 := n5_; have NB201_172 := n6_; clear n0_ n1_ n2_ n3_ n4_ n5_ n6_; clear hb hbox hg) | ((with_reducible refine gate_dst (N := 15) rfl ?_); refine boxEv (N := 15) #[.int .i64 0, .bool false] 77 ?_; intro gb202 hg w77 hbox hb; have n0_ := Aside0.mk (blk_below (g := gb172) (o := .cells #[.int .i64 ((rd_T29 l0 x31_2).f0), .int .i64 ((rd_T29 l0 x31_2).f1), .int .i64 ((rd_T29 l0 x31_2).f2), .int .i64 ((rd_T29 l0 x31_2).f3), .string ((rd_T29 l0 x31_2).f4), .slice A171_5 ((rd_T29 l0 x31_2).f5).length c171_5] 29 (0, 0)) (bkUp BK172.out) hb); have n1_ := Aside0.mk (blk_below (g := gb201) (o := .cells #[.int .i64 0, .bool false] 77 (0, 0)) (bkUp BK201.out) hb); have n2_ := Aside0.mk (below_step (belPut) hb); have n3_ := Aside0.mk (hbox); have n4_ := Aside0.mk ((by rw [hg]; exact (below_size (belPut)) : w.heap.size ≤ gb202)); have n5_ := Aside0.mk ((by rw [hg]; exact (below_size (belPut)) : w.heap.size ≤ gb202)); have n6_ := Aside0.mk ((by rw [hg]; exact Nat.ne_of_lt (blk_lt (g := gb172) (o := .cells #[.int .i64 ((rd_T29 l0 x31_2).f0), .int .i64 ((rd_T29 l0 x31_2).f1), .int .i64 ((rd_T29 l0 x31_2).f2), .int .i64 ((rd_T29 l0 x31_2).f3), .string ((rd_T29 l0 x31_2).f4), .slice A171_5 ((rd_T29 l0 x31_2).f5).length c171_5] 29 (0, 0)) (bkUp BK172.out)) : gb172 ≠ gb202)); have n7_ := Aside0.mk ((by rw [hg]; exact Nat.ne_of_gt (blk_lt (g := gb172) (o := .cells #[.int .i64 ((rd_T29 l0 x31_2).f0), .int .i64 ((rd_T29 l0 x31_2).f1), .int .i64 ((rd_T29 l0 x31_2).f2), .int .i64 ((rd_T29 l0 x31_2).f3), .string ((rd_T29 l0 x31_2).f4), .slice A171_5 ((rd_T29 l0 x31_2).f5).length c171_5] 29 (0, 0)) (bkUp BK172.out)) : gb202 ≠ gb172)); have n8_ := Aside0.mk ((by rw [hg]; exact Nat.ne_of_lt (blk_lt (g := gb201) (o := .cells #[.int .i64 0, .bool false] 77 (0, 0)) (bkUp BK201.out)) : gb201 ≠ gb202)); have n9_ := Aside0.mk ((by rw [hg]; exact Nat.ne_of_gt (blk_lt (g := gb201) (o := .cells #[.int .i64 0, .bool false] 77 (0, 0)) (bkUp BK201.out)) : gb202 ≠ gb201)); clear BK172 BK201 HB; have BK172 := n0_; have BK201 := n1_; have HB := n2_; have BK202 := n3_; have GW202 := n4_; have GE202 := n5_; have NB172_202 := n6_; have NB202_172 := n7_; have NB201_202 := n8_; have NB202_201 := n9_; clear n0_ n1_ n2_ n3_ n4_ n5_ n6_ n7_ n8_ n9_; clear hb hbox hg; have hnb78 := NB201_172.out; have hnc78 := NB172_201.out; have hnb79 := NB201_202.out; have hnc79 := NB202_201.out; have hcz80_0 : w77.cell? ⟨gb201, 0, none⟩ = some (.int .i64 0) := (blk_cell BK201.out 0).trans rfl; have hcz80_1 : w77.cell? ⟨gb201, 1, none⟩ = some (.bool false) := (blk_cell BK201.out 1).trans rfl; have hfz80_0 := blk_frozen BK201.out 0; have hfz80_1 := blk_frozen BK201.out 1; have hnb81 := NB202_172.out; have hnc81 := NB172_202.out; have hcz82_0 : w77.cell? ⟨gb202, 0, none⟩ = some (.int .i64 0) := (blk_cell BK202.out 0).trans rfl; have hcz82_1 : w77.cell? ⟨gb202, 1, none⟩ = some (.bool false) := (blk_cell BK202.out 1).trans rfl; have hfz82_0 := blk_frozen BK202.out 0; have hfz82_1 := blk_frozen BK202.out 1; have hcz83_0 : w77.cell? ⟨gb172, 0, none⟩ = some (.int .i64 ((rd_T29 l0 x31_2).f0)) := (blk_cell BK172.out 0).trans rfl; have hcz83_1 : w77.cell? ⟨gb172, 1, none⟩ = some (.int .i64 ((rd_T29 l0 x31_2).f1)) := (blk_cell BK172.out 1).trans rfl; have hcz83_2 : w77.cell? ⟨gb172, 2, none⟩ = some (.int .i64 ((rd_T29 l0 x31_2).f2)) := (blk_cell BK172.out 2).trans rfl; have hcz83_3 : w77.cell? ⟨gb172, 3, none⟩ = some (.int .i64 ((rd_T29 l0 x31_2).f3)) := (blk_cell BK172.out 3).trans rfl; have hcz83_4 : w77.cell? ⟨gb172, 4, none⟩ = some (.string ((rd_T29 l0 x31_2).f4)) := (blk_cell BK172.out 4).trans rfl; have hcz83_5 : w77.cell? ⟨gb172, 5, none⟩ = some (.slice A171_5 ((rd_T29 l0 x31_2).f5).length c171_5) := (blk_cell BK172.out 5).trans rfl; have hfz83_0 := blk_frozen BK172.out 0; have hfz83_1 := blk_frozen BK172.out 1; have hfz83_2 := blk_frozen BK172.out 2; have hfz83_3 := blk_frozen BK172.out 3; have hfz83_4 := blk_frozen BK172.out 4; have hfz83_5 := blk_frozen BK172.out 5)))
       go_roundg k2
       case measure => have := HK1.out; have := HK2.out; omega
       case rel => exact ⟨(wrap64 (t173 + ((rd_T29 l0 x31_2).f1))), (wrap64 (t174 + ((rd_T29 l0 x31_2).f3))), (t197), (t199), (wrap64 (x31_2 + 1)), eqNow, eqNow, eqNow, eqNow, eqNow, H', ⟨by have := HK1.out; have := HK2.out; omega⟩, ⟨belPut⟩⟩
      subst c56
      have H1 : (if ((rd_T29 l0 x31_2).f3) > 0 then (some (some 112)) else ((hunks_sides.f ((rd_T29 l0 x31_2).f0) ((rd_T29 l0 x31_2).f1) ((rd_T29 l0 x31_2).f2) ((rd_T29 l0 x31_2).f3) ((rd_T29 l0 x31_2).f4) ((rd_T29 l0 x31_2).f5)).bind fun bt189 => (hunks_Order.l1 k2 (wrap64 (t173 + ((rd_T29 l0 x31_2).f1))) (wrap64 (t174 + ((rd_T29 l0 x31_2).f3))) bt189.2.1 true l0 (l0.length : Int) (wrap64 (x31_2 + 1))))) = some r := by rw [if_pos rfl] at H; exact H
      clear H
      have H := H1
      clear H1
      by_cases c57 : ((rd_T29 l0 x31_2).f3) > 0
      ·rw [if_pos c57] at H
       have c57b0 : decide (0 < ((rd_T29 l0 x31_2).f3)) = true := decide_eq_true c57
       clear c57
       obtain rfl := Option.some.inj H
       have p171 : 0 ≤ (x31_2 : Int) := ofDec
       have q171 : x31_2 < (l0.length : Int) := ofDec
       obtain ⟨ad171, A171_5, c171_5, e171, hx171_0, hx171_1, hx171_2, hx171_3, hx171_4, hx171_5, hl171_5, hi171_5⟩ := at_T29 HR0.out x31_2 p171 q171
       cases e171
       replace hx171_0 := cUp HB.out hx171_0
       replace hx171_1 := cUp HB.out hx171_1
       replace hx171_2 := cUp HB.out hx171_2
       replace hx171_3 := cUp HB.out hx171_3
       replace hx171_4 := cUp HB.out hx171_4
       replace hx171_5 := cUp HB.out hx171_5
       have HR171_5 := Aside0.mk hi171_5
       have HC171_5 := Aside0.mk hl171_5
       clear hi171_5 hl171_5
       replace p171 := eq_true p171
       replace q171 := eq_true q171
       go_wp2_with (((with_reducible refine gate_dst (N := 11) rfl ?_); refine boxEv (N := 11) #[.int .i64 0, .int .i64 0, .int .i64 0, .int .i64 0, .string (⟨#[]⟩ : ByteArray), .slice none 0 0] 29 ?_; intro gb172 hg w58 hbox hb; have n0_ := Aside0.mk (below_step belNow hb); have n1_ := Aside0.mk (hbox); have n2_ := Aside0.mk (bszNow (w := w) hg); have n3_ := Aside0.mk (bszNow (w := w) hg); clear HB; have HB := n0_; have BK172 := n1_; have GW172 := n2_; have GE172 := n3_; clear n0_ n1_ n2_ n3_; clear hb hbox hg; have hcz59_0 : w58.cell? ⟨gb172, 0, none⟩ = some (.int .i64 0) := (blk_cell BK172.out 0).trans rfl; have hcz59_1 : w58.cell? ⟨gb172, 1, none⟩ = some (.int .i64 0) := (blk_cell BK172.out 1).trans rfl; have hcz59_2 : w58.cell? ⟨gb172, 2, none⟩ = some (.int .i64 0) := (blk_cell BK172.out 2).trans rfl; have hcz59_3 : w58.cell? ⟨gb172, 3, none⟩ = some (.int .i64 0) := (blk_cell BK172.out 3).trans rfl; have hcz59_4 : w58.cell? ⟨gb172, 4, none⟩ = some (.string (⟨#[]⟩ : ByteArray)) := (blk_cell BK172.out 4).trans rfl; have hcz59_5 : w58.cell? ⟨gb172, 5, none⟩ = some (.slice none 0 0) := (blk_cell BK172.out 5).trans rfl; have hfz59_0 := blk_frozen BK172.out 0; have hfz59_1 := blk_frozen BK172.out 1; have hfz59_2 := blk_frozen BK172.out 2; have hfz59_3 := blk_frozen BK172.out 3; have hfz59_4 := blk_frozen BK172.out 4; have hfz59_5 := blk_frozen BK172.out 5))
       repeat (go_quiet (first | (go_at_call 46; (with_reducible refine (hunks_ahead.calls ((rd_T29 l0 x31_2).f0) ((rd_T29 l0 x31_2).f1) t173 _ A15.out).mono ?_); rintro e w' ⟨rfl, ⟨nd, rfl⟩⟩; (try first | exact ⟨rfl, _, World.drewN_drewN _ _ _⟩ | exact ⟨rfl, _, Eq.trans (World.drewN_drewN _ _ _) (congrArg (World.drewN _) (Nat.add_assoc _ _ _))⟩)) | (go_at_call 46; (with_reducible refine (hunks_ahead.calls ((rd_T29 l0 x31_2).f2) ((rd_T29 l0 x31_2).f3) t174 _ A16.out).mono ?_); rintro e w' ⟨rfl, ⟨nd, rfl⟩⟩; (try first | exact ⟨rfl, _, World.drewN_drewN _ _ _⟩ | exact ⟨rfl, _, Eq.trans (World.drewN_drewN _ _ _) (congrArg (World.drewN _) (Nat.add_assoc _ _ _))⟩))); try go_wp2_with (fail))
       go_ret
       exact ⟨eqEnd, belPut⟩
      rw [if_neg c57] at H
      have c57b0 : decide (0 < ((rd_T29 l0 x31_2).f3)) = false := decide_eq_false c57
      clear c57
      replace H := Option.bind_eq_some_iff.mp H
      obtain ⟨⟨t189, t190, t191, t192, t193⟩, A600, H⟩ := H
      replace H : (hunks_Order.l1 k2 (wrap64 (t173 + ((rd_T29 l0 x31_2).f1))) (wrap64 (t174 + ((rd_T29 l0 x31_2).f3))) t190 true l0 (l0.length : Int) (wrap64 (x31_2 + 1))) = some r := H
      have A60 := Aside0.mk A600
      clear A600
      have H' := Aside0.mk H
      clear H
      have p171 : 0 ≤ (x31_2 : Int) := ofDec
      have q171 : x31_2 < (l0.length : Int) := ofDec
      obtain ⟨ad171, A171_5, c171_5, e171, hx171_0, hx171_1, hx171_2, hx171_3, hx171_4, hx171_5, hl171_5, hi171_5⟩ := at_T29 HR0.out x31_2 p171 q171
      cases e171
      replace hx171_0 := cUp HB.out hx171_0
      replace hx171_1 := cUp HB.out hx171_1
      replace hx171_2 := cUp HB.out hx171_2
      replace hx171_3 := cUp HB.out hx171_3
      replace hx171_4 := cUp HB.out hx171_4
      replace hx171_5 := cUp HB.out hx171_5
      have HR171_5 := Aside0.mk hi171_5
      have HC171_5 := Aside0.mk hl171_5
      clear hi171_5 hl171_5
      replace p171 := eq_true p171
      replace q171 := eq_true q171
      go_wp2_with (((with_reducible refine gate_dst (N := 11) rfl ?_); refine boxEv (N := 11) #[.int .i64 0, .int .i64 0, .int .i64 0, .int .i64 0, .string (⟨#[]⟩ : ByteArray), .slice none 0 0] 29 ?_; intro gb172 hg w61 hbox hb; have n0_ := Aside0.mk (below_step belNow hb); have n1_ := Aside0.mk (hbox); have n2_ := Aside0.mk (bszNow (w := w) hg); have n3_ := Aside0.mk (bszNow (w := w) hg); clear HB; have HB := n0_; have BK172 := n1_; have GW172 := n2_; have GE172 := n3_; clear n0_ n1_ n2_ n3_; clear hb hbox hg; have hcz62_0 : w61.cell? ⟨gb172, 0, none⟩ = some (.int .i64 0) := (blk_cell BK172.out 0).trans rfl; have hcz62_1 : w61.cell? ⟨gb172, 1, none⟩ = some (.int .i64 0) := (blk_cell BK172.out 1).trans rfl; have hcz62_2 : w61.cell? ⟨gb172, 2, none⟩ = some (.int .i64 0) := (blk_cell BK172.out 2).trans rfl; have hcz62_3 : w61.cell? ⟨gb172, 3, none⟩ = some (.int .i64 0) := (blk_cell BK172.out 3).trans rfl; have hcz62_4 : w61.cell? ⟨gb172, 4, none⟩ = some (.string (⟨#[]⟩ : ByteArray)) := (blk_cell BK172.out 4).trans rfl; have hcz62_5 : w61.cell? ⟨gb172, 5, none⟩ = some (.slice none 0 0) := (blk_cell BK172.out 5).trans rfl; have hfz62_0 := blk_frozen BK172.out 0; have hfz62_1 := blk_frozen BK172.out 1; have hfz62_2 := blk_frozen BK172.out 2; have hfz62_3 := blk_frozen BK172.out 3; have hfz62_4 := blk_frozen BK172.out 4; have hfz62_5 := blk_frozen BK172.out 5))
      repeat (go_quiet (first | (go_at_call 46; (with_reducible refine (hunks_ahead.calls ((rd_T29 l0 x31_2).f0) ((rd_T29 l0 x31_2).f1) t173 _ A15.out).mono ?_); rintro e w' ⟨rfl, ⟨nd, rfl⟩⟩; (try first | exact ⟨rfl, _, World.drewN_drewN _ _ _⟩ | exact ⟨rfl, _, Eq.trans (World.drewN_drewN _ _ _) (congrArg (World.drewN _) (Nat.add_assoc _ _ _))⟩)) | (go_at_call 46; (with_reducible refine (hunks_ahead.calls ((rd_T29 l0 x31_2).f2) ((rd_T29 l0 x31_2).f3) t174 _ A16.out).mono ?_); rintro e w' ⟨rfl, ⟨nd, rfl⟩⟩; (try first | exact ⟨rfl, _, World.drewN_drewN _ _ _⟩ | exact ⟨rfl, _, Eq.trans (World.drewN_drewN _ _ _) (congrArg (World.drewN _) (Nat.add_assoc _ _ _))⟩))); try go_wp2_with (first | (go_at_call 40; (with_reducible refine (hunks_sides.calls ((rd_T29 l0 x31_2).f0) ((rd_T29 l0 x31_2).f1) ((rd_T29 l0 x31_2).f2) ((rd_T29 l0 x31_2).f3) ((rd_T29 l0 x31_2).f4) _ _ ((rd_T29 l0 x31_2).f5) t189 t190 t191 t192 t193 _ ?side1 ?side2 A60.out).mono ?_); (case side1 => exact Kd.C_below HR171_5.out (belPut)); (case side2 => exact HC171_5.out); rintro e w63 ⟨rfl, hb⟩; have n0_ := Aside0.mk (blk_below (g := gb172) (o := .cells #[.int .i64 ((rd_T29 l0 x31_2).f0), .int .i64 ((rd_T29 l0 x31_2).f1), .int .i64 ((rd_T29 l0 x31_2).f2), .int .i64 ((rd_T29 l0 x31_2).f3), .string ((rd_T29 l0 x31_2).f4), .slice A171_5 ((rd_T29 l0 x31_2).f5).length c171_5] 29 (0, 0)) (by refine bkUp ?_; refine blk_put (cs := #[.int .i64 ((rd_T29 l0 x31_2).f0), .int .i64 ((rd_T29 l0 x31_2).f1), .int .i64 ((rd_T29 l0 x31_2).f2), .int .i64 ((rd_T29 l0 x31_2).f3), .string ((rd_T29 l0 x31_2).f4), .slice none 0 0]) ?_ 5 _ rfl; refine bkUp ?_; refine blk_put (cs := #[.int .i64 ((rd_T29 l0 x31_2).f0), .int .i64 ((rd_T29 l0 x31_2).f1), .int .i64 ((rd_T29 l0 x31_2).f2), .int .i64 ((rd_T29 l0 x31_2).f3), .string (⟨#[]⟩ : ByteArray), .slice none 0 0]) ?_ 4 _ rfl; refine bkUp ?_; refine blk_put (cs := #[.int .i64 ((rd_T29 l0 x31_2).f0), .int .i64 ((rd_T29 l0 x31_2).f1), .int .i64 ((rd_T29 l0 x31_2).f2), .int .i64 0, .string (⟨#[]⟩ : ByteArray), .slice none 0 0]) ?_ 3 _ rfl; refine bkUp ?_; refine blk_put (cs := #[.int .i64 ((rd_T29 l0 x31_2).f0), .int .i64 ((rd_T29 l0 x31_2).f1), .int .i64 0, .int .i64 0, .string (⟨#[]⟩ : ByteArray), .slice none 0 0]) ?_ 2 _ rfl; refine bkUp ?_; refine blk_put (cs := #[.int .i64 ((rd_T29 l0 x31_2).f0), .int .i64 0, .int .i64 0, .int .i64 0, .string (⟨#[]⟩ : ByteArray), .slice none 0 0]) ?_ 1 _ rfl; refine bkUp ?_; refine blk_put (cs := #[.int .i64 0, .int .i64 0, .int .i64 0, .int .i64 0, .string (⟨#[]⟩ : ByteArray), .slice none 0 0]) ?_ 0 _ rfl; exact bkUp BK172.out) hb); have n1_ := Aside0.mk (below_step (belPut) hb); clear BK172 HB; have BK172 := n0_; have HB := n1_; clear n0_ n1_; (try clear hb); (try clear hb2); (try clear hk); (try clear hi)) | ((with_reducible refine gate_dst (N := 14) rfl ?_); refine boxEv (N := 14) #[.int .i64 0, .bool false] 77 ?_; intro gb194 hg w64 hbox hb; have n0_ := Aside0.mk (blk_below (g := gb172) (o := .cells #[.int .i64 ((rd_T29 l0 x31_2).f0), .int .i64 ((rd_T29 l0 x31_2).f1), .int .i64 ((rd_T29 l0 x31_2).f2), .int .i64 ((rd_T29 l0 x31_2).f3), .string ((rd_T29 l0 x31_2).f4), .slice A171_5 ((rd_T29 l0 x31_2).f5).length c171_5] 29 (0, 0)) (bkUp BK172.out) hb); have n1_ := Aside0.mk (below_step (belPut) hb); have n2_ := Aside0.mk (hbox); have n3_ := Aside0.mk ((by rw [hg]; exact (below_size (belPut)) : w.heap.size ≤ gb194)); have n4_ := Aside0.mk ((by rw [hg]; exact (below_size (belPut)) : w.heap.size ≤ gb194)); have n5_ := Aside0.mk ((by rw [hg]; exact Nat.ne_of_lt (blk_lt (g := gb172) (o := .cells #[.int .i64 ((rd_T29 l0 x31_2).f0), .int .i64 ((rd_T29 l0 x31_2).f1), .int .i64 ((rd_T29 l0 x31_2).f2), .int .i64 ((rd_T29 l0 x31_2).f3), .string ((rd_T29 l0 x31_2).f4), .slice A171_5 ((rd_T29 l0 x31_2).f5).length c171_5] 29 (0, 0)) (bkUp BK172.out)) : gb172 ≠ gb194)); have n6_ := Aside0.mk ((by rw [hg]; exact Nat.ne_of_gt (blk_lt (g := gb172) (o := .cells #[.int .i64 ((rd_T29 l0 x31_2).f0), .int .i64 ((rd_T29 l0 x31_2).f1), .int .i64 ((rd_T29 l0 x31_2).f2), .int .i64 ((rd_T29 l0 x31_2).f3), .string ((rd_T29 l0 x31_2).f4), .slice A171_5 ((rd_T29 l0 x31_2).f5).length c171_5] 29 (0, 0)) (bkUp BK172.out)) : gb194 ≠ gb172)); clear BK172 HB; have BK172 := n0_; have HB := n1_; have BK194 := n2_; have GW194 := n3_; have GE194 := n4_; have NB172_194 := n5_; have NB194_172 := n6_; clear n0_ n1_ n2_ n3_ n4_ n5_ n6_; clear hb hbox hg) | ((with_reducible refine gate_dst (N := 15) rfl ?_); refine boxEv (N := 15) #[.int .i64 0, .bool false] 77 ?_; intro gb195 hg w65 hbox hb; have n0_ := Aside0.mk (blk_below (g := gb172) (o := .cells #[.int .i64 ((rd_T29 l0 x31_2).f0), .int .i64 ((rd_T29 l0 x31_2).f1), .int .i64 ((rd_T29 l0 x31_2).f2), .int .i64 ((rd_T29 l0 x31_2).f3), .string ((rd_T29 l0 x31_2).f4), .slice A171_5 ((rd_T29 l0 x31_2).f5).length c171_5] 29 (0, 0)) (bkUp BK172.out) hb); have n1_ := Aside0.mk (blk_below (g := gb194) (o := .cells #[.int .i64 0, .bool false] 77 (0, 0)) (bkUp BK194.out) hb); have n2_ := Aside0.mk (below_step (belPut) hb); have n3_ := Aside0.mk (hbox); have n4_ := Aside0.mk ((by rw [hg]; exact (below_size (belPut)) : w.heap.size ≤ gb195)); have n5_ := Aside0.mk ((by rw [hg]; exact (below_size (belPut)) : w.heap.size ≤ gb195)); have n6_ := Aside0.mk ((by rw [hg]; exact Nat.ne_of_lt (blk_lt (g := gb172) (o := .cells #[.int .i64 ((rd_T29 l0 x31_2).f0), .int .i64 ((rd_T29 l0 x31_2).f1), .int .i64 ((rd_T29 l0 x31_2).f2), .int .i64 ((rd_T29 l0 x31_2).f3), .string ((rd_T29 l0 x31_2).f4), .slice A171_5 ((rd_T29 l0 x31_2).f5).length c171_5] 29 (0, 0)) (bkUp BK172.out)) : gb172 ≠ gb195)); have n7_ := Aside0.mk ((by rw [hg]; exact Nat.ne_of_gt (blk_lt (g := gb172) (o := .cells #[.int .i64 ((rd_T29 l0 x31_2).f0), .int .i64 ((rd_T29 l0 x31_2).f1), .int .i64 ((rd_T29 l0 x31_2).f2), .int .i64 ((rd_T29 l0 x31_2).f3), .string ((rd_T29 l0 x31_2).f4), .slice A171_5 ((rd_T29 l0 x31_2).f5).length c171_5] 29 (0, 0)) (bkUp BK172.out)) : gb195 ≠ gb172)); have n8_ := Aside0.mk ((by rw [hg]; exact Nat.ne_of_lt (blk_lt (g := gb194) (o := .cells #[.int .i64 0, .bool false] 77 (0, 0)) (bkUp BK194.out)) : gb194 ≠ gb195)); have n9_ := Aside0.mk ((by rw [hg]; exact Nat.ne_of_gt (blk_lt (g := gb194) (o := .cells #[.int .i64 0, .bool false] 77 (0, 0)) (bkUp BK194.out)) : gb195 ≠ gb194)); clear BK172 BK194 HB; have BK172 := n0_; have BK194 := n1_; have HB := n2_; have BK195 := n3_; have GW195 := n4_; have GE195 := n5_; have NB172_195 := n6_; have NB195_172 := n7_; have NB194_195 := n8_; have NB195_194 := n9_; clear n0_ n1_ n2_ n3_ n4_ n5_ n6_ n7_ n8_ n9_; clear hb hbox hg; have hnb66 := NB194_172.out; have hnc66 := NB172_194.out; have hnb67 := NB194_195.out; have hnc67 := NB195_194.out; have hcz68_0 : w65.cell? ⟨gb194, 0, none⟩ = some (.int .i64 0) := (blk_cell BK194.out 0).trans rfl; have hcz68_1 : w65.cell? ⟨gb194, 1, none⟩ = some (.bool false) := (blk_cell BK194.out 1).trans rfl; have hfz68_0 := blk_frozen BK194.out 0; have hfz68_1 := blk_frozen BK194.out 1; have hnb69 := NB195_172.out; have hnc69 := NB172_195.out; have hcz70_0 : w65.cell? ⟨gb195, 0, none⟩ = some (.int .i64 0) := (blk_cell BK195.out 0).trans rfl; have hcz70_1 : w65.cell? ⟨gb195, 1, none⟩ = some (.bool false) := (blk_cell BK195.out 1).trans rfl; have hfz70_0 := blk_frozen BK195.out 0; have hfz70_1 := blk_frozen BK195.out 1; have hcz71_0 : w65.cell? ⟨gb172, 0, none⟩ = some (.int .i64 ((rd_T29 l0 x31_2).f0)) := (blk_cell BK172.out 0).trans rfl; have hcz71_1 : w65.cell? ⟨gb172, 1, none⟩ = some (.int .i64 ((rd_T29 l0 x31_2).f1)) := (blk_cell BK172.out 1).trans rfl; have hcz71_2 : w65.cell? ⟨gb172, 2, none⟩ = some (.int .i64 ((rd_T29 l0 x31_2).f2)) := (blk_cell BK172.out 2).trans rfl; have hcz71_3 : w65.cell? ⟨gb172, 3, none⟩ = some (.int .i64 ((rd_T29 l0 x31_2).f3)) := (blk_cell BK172.out 3).trans rfl; have hcz71_4 : w65.cell? ⟨gb172, 4, none⟩ = some (.string ((rd_T29 l0 x31_2).f4)) := (blk_cell BK172.out 4).trans rfl; have hcz71_5 : w65.cell? ⟨gb172, 5, none⟩ = some (.slice A171_5 ((rd_T29 l0 x31_2).f5).length c171_5) := (blk_cell BK172.out 5).trans rfl; have hfz71_0 := blk_frozen BK172.out 0; have hfz71_1 := blk_frozen BK172.out 1; have hfz71_2 := blk_frozen BK172.out 2; have hfz71_3 := blk_frozen BK172.out 3; have hfz71_4 := blk_frozen BK172.out 4; have hfz71_5 := blk_frozen BK172.out 5)))
      go_roundg k2
      case measure => have := HK1.out; have := HK2.out; omega
      case rel => exact ⟨(wrap64 (t173 + ((rd_T29 l0 x31_2).f1))), (wrap64 (t174 + ((rd_T29 l0 x31_2).f3))), (t190), (true), (wrap64 (x31_2 + 1)), eqNow, eqNow, eqNow, eqNow, eqNow, H', ⟨by have := HK1.out; have := HK2.out; omega⟩, ⟨belPut⟩⟩
     subst c24
     have H1 : (if ((rd_T29 l0 x31_2).f1) > 0 then (some (some 112)) else (if x9_2 = true then (if ((rd_T29 l0 x31_2).f3) > 0 then (some (some 112)) else ((hunks_sides.f ((rd_T29 l0 x31_2).f0) ((rd_T29 l0 x31_2).f1) ((rd_T29 l0 x31_2).f2) ((rd_T29 l0 x31_2).f3) ((rd_T29 l0 x31_2).f4) ((rd_T29 l0 x31_2).f5)).bind fun bt175 => (hunks_Order.l1 k2 (wrap64 (t173 + ((rd_T29 l0 x31_2).f1))) (wrap64 (t174 + ((rd_T29 l0 x31_2).f3))) true true l0 (l0.length : Int) (wrap64 (x31_2 + 1))))) else ((hunks_sides.f ((rd_T29 l0 x31_2).f0) ((rd_T29 l0 x31_2).f1) ((rd_T29 l0 x31_2).f2) ((rd_T29 l0 x31_2).f3) ((rd_T29 l0 x31_2).f4) ((rd_T29 l0 x31_2).f5)).bind fun bt182 => (hunks_Order.l1 k2 (wrap64 (t173 + ((rd_T29 l0 x31_2).f1))) (wrap64 (t174 + ((rd_T29 l0 x31_2).f3))) true bt182.2.2.2.1 l0 (l0.length : Int) (wrap64 (x31_2 + 1)))))) = some r := by rw [if_pos rfl] at H; exact H
     clear H
     have H := H1
     clear H1
     by_cases c25 : ((rd_T29 l0 x31_2).f1) > 0
     ·rw [if_pos c25] at H
      have c25b0 : decide (0 < ((rd_T29 l0 x31_2).f1)) = true := decide_eq_true c25
      clear c25
      obtain rfl := Option.some.inj H
      have p171 : 0 ≤ (x31_2 : Int) := ofDec
      have q171 : x31_2 < (l0.length : Int) := ofDec
      obtain ⟨ad171, A171_5, c171_5, e171, hx171_0, hx171_1, hx171_2, hx171_3, hx171_4, hx171_5, hl171_5, hi171_5⟩ := at_T29 HR0.out x31_2 p171 q171
      cases e171
      replace hx171_0 := cUp HB.out hx171_0
      replace hx171_1 := cUp HB.out hx171_1
      replace hx171_2 := cUp HB.out hx171_2
      replace hx171_3 := cUp HB.out hx171_3
      replace hx171_4 := cUp HB.out hx171_4
      replace hx171_5 := cUp HB.out hx171_5
      have HR171_5 := Aside0.mk hi171_5
      have HC171_5 := Aside0.mk hl171_5
      clear hi171_5 hl171_5
      replace p171 := eq_true p171
      replace q171 := eq_true q171
      go_wp2_with (((with_reducible refine gate_dst (N := 11) rfl ?_); refine boxEv (N := 11) #[.int .i64 0, .int .i64 0, .int .i64 0, .int .i64 0, .string (⟨#[]⟩ : ByteArray), .slice none 0 0] 29 ?_; intro gb172 hg w26 hbox hb; have n0_ := Aside0.mk (below_step belNow hb); have n1_ := Aside0.mk (hbox); have n2_ := Aside0.mk (bszNow (w := w) hg); have n3_ := Aside0.mk (bszNow (w := w) hg); clear HB; have HB := n0_; have BK172 := n1_; have GW172 := n2_; have GE172 := n3_; clear n0_ n1_ n2_ n3_; clear hb hbox hg; have hcz27_0 : w26.cell? ⟨gb172, 0, none⟩ = some (.int .i64 0) := (blk_cell BK172.out 0).trans rfl; have hcz27_1 : w26.cell? ⟨gb172, 1, none⟩ = some (.int .i64 0) := (blk_cell BK172.out 1).trans rfl; have hcz27_2 : w26.cell? ⟨gb172, 2, none⟩ = some (.int .i64 0) := (blk_cell BK172.out 2).trans rfl; have hcz27_3 : w26.cell? ⟨gb172, 3, none⟩ = some (.int .i64 0) := (blk_cell BK172.out 3).trans rfl; have hcz27_4 : w26.cell? ⟨gb172, 4, none⟩ = some (.string (⟨#[]⟩ : ByteArray)) := (blk_cell BK172.out 4).trans rfl; have hcz27_5 : w26.cell? ⟨gb172, 5, none⟩ = some (.slice none 0 0) := (blk_cell BK172.out 5).trans rfl; have hfz27_0 := blk_frozen BK172.out 0; have hfz27_1 := blk_frozen BK172.out 1; have hfz27_2 := blk_frozen BK172.out 2; have hfz27_3 := blk_frozen BK172.out 3; have hfz27_4 := blk_frozen BK172.out 4; have hfz27_5 := blk_frozen BK172.out 5))
      repeat (go_quiet (first | (go_at_call 46; (with_reducible refine (hunks_ahead.calls ((rd_T29 l0 x31_2).f0) ((rd_T29 l0 x31_2).f1) t173 _ A15.out).mono ?_); rintro e w' ⟨rfl, ⟨nd, rfl⟩⟩; (try first | exact ⟨rfl, _, World.drewN_drewN _ _ _⟩ | exact ⟨rfl, _, Eq.trans (World.drewN_drewN _ _ _) (congrArg (World.drewN _) (Nat.add_assoc _ _ _))⟩)) | (go_at_call 46; (with_reducible refine (hunks_ahead.calls ((rd_T29 l0 x31_2).f2) ((rd_T29 l0 x31_2).f3) t174 _ A16.out).mono ?_); rintro e w' ⟨rfl, ⟨nd, rfl⟩⟩; (try first | exact ⟨rfl, _, World.drewN_drewN _ _ _⟩ | exact ⟨rfl, _, Eq.trans (World.drewN_drewN _ _ _) (congrArg (World.drewN _) (Nat.add_assoc _ _ _))⟩))); try go_wp2_with (fail))
      go_ret
      exact ⟨eqEnd, belPut⟩
     rw [if_neg c25] at H
     have c25b0 : decide (0 < ((rd_T29 l0 x31_2).f1)) = false := decide_eq_false c25
     clear c25
     by_cases c28 : x9_2 = true
     rotate_left
     ·replace c28 := Bool.eq_false_iff.mpr c28
      subst c28
      have H1 : ((hunks_sides.f ((rd_T29 l0 x31_2).f0) ((rd_T29 l0 x31_2).f1) ((rd_T29 l0 x31_2).f2) ((rd_T29 l0 x31_2).f3) ((rd_T29 l0 x31_2).f4) ((rd_T29 l0 x31_2).f5)).bind fun bt182 => (hunks_Order.l1 k2 (wrap64 (t173 + ((rd_T29 l0 x31_2).f1))) (wrap64 (t174 + ((rd_T29 l0 x31_2).f3))) true bt182.2.2.2.1 l0 (l0.length : Int) (wrap64 (x31_2 + 1)))) = some r := by rw [if_neg (show ¬ (false = true) by decide)] at H; exact H
      clear H
      have H := H1
      clear H1
      replace H := Option.bind_eq_some_iff.mp H
      obtain ⟨⟨t182, t183, t184, t185, t186⟩, A440, H⟩ := H
      replace H : (hunks_Order.l1 k2 (wrap64 (t173 + ((rd_T29 l0 x31_2).f1))) (wrap64 (t174 + ((rd_T29 l0 x31_2).f3))) true t185 l0 (l0.length : Int) (wrap64 (x31_2 + 1))) = some r := H
      have A44 := Aside0.mk A440
      clear A440
      have H' := Aside0.mk H
      clear H
      have p171 : 0 ≤ (x31_2 : Int) := ofDec
      have q171 : x31_2 < (l0.length : Int) := ofDec
      obtain ⟨ad171, A171_5, c171_5, e171, hx171_0, hx171_1, hx171_2, hx171_3, hx171_4, hx171_5, hl171_5, hi171_5⟩ := at_T29 HR0.out x31_2 p171 q171
      cases e171
      replace hx171_0 := cUp HB.out hx171_0
      replace hx171_1 := cUp HB.out hx171_1
      replace hx171_2 := cUp HB.out hx171_2
      replace hx171_3 := cUp HB.out hx171_3
      replace hx171_4 := cUp HB.out hx171_4
      replace hx171_5 := cUp HB.out hx171_5
      have HR171_5 := Aside0.mk hi171_5
      have HC171_5 := Aside0.mk hl171_5
      clear hi171_5 hl171_5
      replace p171 := eq_true p171
      replace q171 := eq_true q171
      go_wp2_with (((with_reducible refine gate_dst (N := 11) rfl ?_); refine boxEv (N := 11) #[.int .i64 0, .int .i64 0, .int .i64 0, .int .i64 0, .string (⟨#[]⟩ : ByteArray), .slice none 0 0] 29 ?_; intro gb172 hg w45 hbox hb; have n0_ := Aside0.mk (below_step belNow hb); have n1_ := Aside0.mk (hbox); have n2_ := Aside0.mk (bszNow (w := w) hg); have n3_ := Aside0.mk (bszNow (w := w) hg); clear HB; have HB := n0_; have BK172 := n1_; have GW172 := n2_; have GE172 := n3_; clear n0_ n1_ n2_ n3_; clear hb hbox hg; have hcz46_0 : w45.cell? ⟨gb172, 0, none⟩ = some (.int .i64 0) := (blk_cell BK172.out 0).trans rfl; have hcz46_1 : w45.cell? ⟨gb172, 1, none⟩ = some (.int .i64 0) := (blk_cell BK172.out 1).trans rfl; have hcz46_2 : w45.cell? ⟨gb172, 2, none⟩ = some (.int .i64 0) := (blk_cell BK172.out 2).trans rfl; have hcz46_3 : w45.cell? ⟨gb172, 3, none⟩ = some (.int .i64 0) := (blk_cell BK172.out 3).trans rfl; have hcz46_4 : w45.cell? ⟨gb172, 4, none⟩ = some (.string (⟨#[]⟩ : ByteArray)) := (blk_cell BK172.out 4).trans rfl; have hcz46_5 : w45.cell? ⟨gb172, 5, none⟩ = some (.slice none 0 0) := (blk_cell BK172.out 5).trans rfl; have hfz46_0 := blk_frozen BK172.out 0; have hfz46_1 := blk_frozen BK172.out 1; have hfz46_2 := blk_frozen BK172.out 2; have hfz46_3 := blk_frozen BK172.out 3; have hfz46_4 := blk_frozen BK172.out 4; have hfz46_5 := blk_frozen BK172.out 5))
      repeat (go_quiet (first | (go_at_call 46; (with_reducible refine (hunks_ahead.calls ((rd_T29 l0 x31_2).f0) ((rd_T29 l0 x31_2).f1) t173 _ A15.out).mono ?_); rintro e w' ⟨rfl, ⟨nd, rfl⟩⟩; (try first | exact ⟨rfl, _, World.drewN_drewN _ _ _⟩ | exact ⟨rfl, _, Eq.trans (World.drewN_drewN _ _ _) (congrArg (World.drewN _) (Nat.add_assoc _ _ _))⟩)) | (go_at_call 46; (with_reducible refine (hunks_ahead.calls ((rd_T29 l0 x31_2).f2) ((rd_T29 l0 x31_2).f3) t174 _ A16.out).mono ?_); rintro e w' ⟨rfl, ⟨nd, rfl⟩⟩; (try first | exact ⟨rfl, _, World.drewN_drewN _ _ _⟩ | exact ⟨rfl, _, Eq.trans (World.drewN_drewN _ _ _) (congrArg (World.drewN _) (Nat.add_assoc _ _ _))⟩))); try go_wp2_with (first | (go_at_call 40; (with_reducible refine (hunks_sides.calls ((rd_T29 l0 x31_2).f0) ((rd_T29 l0 x31_2).f1) ((rd_T29 l0 x31_2).f2) ((rd_T29 l0 x31_2).f3) ((rd_T29 l0 x31_2).f4) _ _ ((rd_T29 l0 x31_2).f5) t182 t183 t184 t185 t186 _ ?side1 ?side2 A44.out).mono ?_); (case side1 => exact Kd.C_below HR171_5.out (belPut)); (case side2 => exact HC171_5.out); rintro e w47 ⟨rfl, hb⟩; have n0_ := Aside0.mk (blk_below (g := gb172) (o := .cells #[.int .i64 ((rd_T29 l0 x31_2).f0), .int .i64 ((rd_T29 l0 x31_2).f1), .int .i64 ((rd_T29 l0 x31_2).f2), .int .i64 ((rd_T29 l0 x31_2).f3), .string ((rd_T29 l0 x31_2).f4), .slice A171_5 ((rd_T29 l0 x31_2).f5).length c171_5] 29 (0, 0)) (by refine bkUp ?_; refine blk_put (cs := #[.int .i64 ((rd_T29 l0 x31_2).f0), .int .i64 ((rd_T29 l0 x31_2).f1), .int .i64 ((rd_T29 l0 x31_2).f2), .int .i64 ((rd_T29 l0 x31_2).f3), .string ((rd_T29 l0 x31_2).f4), .slice none 0 0]) ?_ 5 _ rfl; refine bkUp ?_; refine blk_put (cs := #[.int .i64 ((rd_T29 l0 x31_2).f0), .int .i64 ((rd_T29 l0 x31_2).f1), .int .i64 ((rd_T29 l0 x31_2).f2), .int .i64 ((rd_T29 l0 x31_2).f3), .string (⟨#[]⟩ : ByteArray), .slice none 0 0]) ?_ 4 _ rfl; refine bkUp ?_; refine blk_put (cs := #[.int .i64 ((rd_T29 l0 x31_2).f0), .int .i64 ((rd_T29 l0 x31_2).f1), .int .i64 ((rd_T29 l0 x31_2).f2), .int .i64 0, .string (⟨#[]⟩ : ByteArray), .slice none 0 0]) ?_ 3 _ rfl; refine bkUp ?_; refine blk_put (cs := #[.int .i64 ((rd_T29 l0 x31_2).f0), .int .i64 ((rd_T29 l0 x31_2).f1), .int .i64 0, .int .i64 0, .string (⟨#[]⟩ : ByteArray), .slice none 0 0]) ?_ 2 _ rfl; refine bkUp ?_; refine blk_put (cs := #[.int .i64 ((rd_T29 l0 x31_2).f0), .int .i64 0, .int .i64 0, .int .i64 0, .string (⟨#[]⟩ : ByteArray), .slice none 0 0]) ?_ 1 _ rfl; refine bkUp ?_; refine blk_put (cs := #[.int .i64 0, .int .i64 0, .int .i64 0, .int .i64 0, .string (⟨#[]⟩ : ByteArray), .slice none 0 0]) ?_ 0 _ rfl; exact bkUp BK172.out) hb); have n1_ := Aside0.mk (below_step (belPut) hb); clear BK172 HB; have BK172 := n0_; have HB := n1_; clear n0_ n1_; (try clear hb); (try clear hb2); (try clear hk); (try clear hi)) | ((with_reducible refine gate_dst (N := 14) rfl ?_); refine boxEv (N := 14) #[.int .i64 0, .bool false] 77 ?_; intro gb187 hg w48 hbox hb; have n0_ := Aside0.mk (blk_below (g := gb172) (o := .cells #[.int .i64 ((rd_T29 l0 x31_2).f0), .int .i64 ((rd_T29 l0 x31_2).f1), .int .i64 ((rd_T29 l0 x31_2).f2), .int .i64 ((rd_T29 l0 x31_2).f3), .string ((rd_T29 l0 x31_2).f4), .slice A171_5 ((rd_T29 l0 x31_2).f5).length c171_5] 29 (0, 0)) (bkUp BK172.out) hb); have n1_ := Aside0.mk (below_step (belPut) hb); have n2_ := Aside0.mk (hbox); have n3_ := Aside0.mk ((by rw [hg]; exact (below_size (belPut)) : w.heap.size ≤ gb187)); have n4_ := Aside0.mk ((by rw [hg]; exact (below_size (belPut)) : w.heap.size ≤ gb187)); have n5_ := Aside0.mk ((by rw [hg]; exact Nat.ne_of_lt (blk_lt (g := gb172) (o := .cells #[.int .i64 ((rd_T29 l0 x31_2).f0), .int .i64 ((rd_T29 l0 x31_2).f1), .int .i64 ((rd_T29 l0 x31_2).f2), .int .i64 ((rd_T29 l0 x31_2).f3), .string ((rd_T29 l0 x31_2).f4), .slice A171_5 ((rd_T29 l0 x31_2).f5).length c171_5] 29 (0, 0)) (bkUp BK172.out)) : gb172 ≠ gb187)); have n6_ := Aside0.mk ((by rw [hg]; exact Nat.ne_of_gt (blk_lt (g := gb172) (o := .cells #[.int .i64 ((rd_T29 l0 x31_2).f0), .int .i64 ((rd_T29 l0 x31_2).f1), .int .i64 ((rd_T29 l0 x31_2).f2), .int .i64 ((rd_T29 l0 x31_2).f3), .string ((rd_T29 l0 x31_2).f4), .slice A171_5 ((rd_T29 l0 x31_2).f5).length c171_5] 29 (0, 0)) (bkUp BK172.out)) : gb187 ≠ gb172)); clear BK172 HB; have BK172 := n0_; have HB := n1_; have BK187 := n2_; have GW187 := n3_; have GE187 := n4_; have NB172_187 := n5_; have NB187_172 := n6_; clear n0_ n1_ n2_ n3_ n4_ n5_ n6_; clear hb hbox hg) | ((with_reducible refine gate_dst (N := 15) rfl ?_); refine boxEv (N := 15) #[.int .i64 0, .bool false] 77 ?_; intro gb188 hg w49 hbox hb; have n0_ := Aside0.mk (blk_below (g := gb172) (o := .cells #[.int .i64 ((rd_T29 l0 x31_2).f0), .int .i64 ((rd_T29 l0 x31_2).f1), .int .i64 ((rd_T29 l0 x31_2).f2), .int .i64 ((rd_T29 l0 x31_2).f3), .string ((rd_T29 l0 x31_2).f4), .slice A171_5 ((rd_T29 l0 x31_2).f5).length c171_5] 29 (0, 0)) (bkUp BK172.out) hb); have n1_ := Aside0.mk (blk_below (g := gb187) (o := .cells #[.int .i64 0, .bool false] 77 (0, 0)) (bkUp BK187.out) hb); have n2_ := Aside0.mk (below_step (belPut) hb); have n3_ := Aside0.mk (hbox); have n4_ := Aside0.mk ((by rw [hg]; exact (below_size (belPut)) : w.heap.size ≤ gb188)); have n5_ := Aside0.mk ((by rw [hg]; exact (below_size (belPut)) : w.heap.size ≤ gb188)); have n6_ := Aside0.mk ((by rw [hg]; exact Nat.ne_of_lt (blk_lt (g := gb172) (o := .cells #[.int .i64 ((rd_T29 l0 x31_2).f0), .int .i64 ((rd_T29 l0 x31_2).f1), .int .i64 ((rd_T29 l0 x31_2).f2), .int .i64 ((rd_T29 l0 x31_2).f3), .string ((rd_T29 l0 x31_2).f4), .slice A171_5 ((rd_T29 l0 x31_2).f5).length c171_5] 29 (0, 0)) (bkUp BK172.out)) : gb172 ≠ gb188)); have n7_ := Aside0.mk ((by rw [hg]; exact Nat.ne_of_gt (blk_lt (g := gb172) (o := .cells #[.int .i64 ((rd_T29 l0 x31_2).f0), .int .i64 ((rd_T29 l0 x31_2).f1), .int .i64 ((rd_T29 l0 x31_2).f2), .int .i64 ((rd_T29 l0 x31_2).f3), .string ((rd_T29 l0 x31_2).f4), .slice A171_5 ((rd_T29 l0 x31_2).f5).length c171_5] 29 (0, 0)) (bkUp BK172.out)) : gb188 ≠ gb172)); have n8_ := Aside0.mk ((by rw [hg]; exact Nat.ne_of_lt (blk_lt (g := gb187) (o := .cells #[.int .i64 0, .bool false] 77 (0, 0)) (bkUp BK187.out)) : gb187 ≠ gb188)); have n9_ := Aside0.mk ((by rw [hg]; exact Nat.ne_of_gt (blk_lt (g := gb187) (o := .cells #[.int .i64 0, .bool false] 77 (0, 0)) (bkUp BK187.out)) : gb188 ≠ gb187)); clear BK172 BK187 HB; have BK172 := n0_; have BK187 := n1_; have HB := n2_; have BK188 := n3_; have GW188 := n4_; have GE188 := n5_; have NB172_188 := n6_; have NB188_172 := n7_; have NB187_188 := n8_; have NB188_187 := n9_; clear n0_ n1_ n2_ n3_ n4_ n5_ n6_ n7_ n8_ n9_; clear hb hbox hg; have hnb50 := NB187_172.out; have hnc50 := NB172_187.out; have hnb51 := NB187_188.out; have hnc51 := NB188_187.out; have hcz52_0 : w49.cell? ⟨gb187, 0, none⟩ = some (.int .i64 0) := (blk_cell BK187.out 0).trans rfl; have hcz52_1 : w49.cell? ⟨gb187, 1, none⟩ = some (.bool false) := (blk_cell BK187.out 1).trans rfl; have hfz52_0 := blk_frozen BK187.out 0; have hfz52_1 := blk_frozen BK187.out 1; have hnb53 := NB188_172.out; have hnc53 := NB172_188.out; have hcz54_0 : w49.cell? ⟨gb188, 0, none⟩ = some (.int .i64 0) := (blk_cell BK188.out 0).trans rfl; have hcz54_1 : w49.cell? ⟨gb188, 1, none⟩ = some (.bool false) := (blk_cell BK188.out 1).trans rfl; have hfz54_0 := blk_frozen BK188.out 0; have hfz54_1 := blk_frozen BK188.out 1; have hcz55_0 : w49.cell? ⟨gb172, 0, none⟩ = some (.int .i64 ((rd_T29 l0 x31_2).f0)) := (blk_cell BK172.out 0).trans rfl; have hcz55_1 : w49.cell? ⟨gb172, 1, none⟩ = some (.int .i64 ((rd_T29 l0 x31_2).f1)) := (blk_cell BK172.out 1).trans rfl; have hcz55_2 : w49.cell? ⟨gb172, 2, none⟩ = some (.int .i64 ((rd_T29 l0 x31_2).f2)) := (blk_cell BK172.out 2).trans rfl; have hcz55_3 : w49.cell? ⟨gb172, 3, none⟩ = some (.int .i64 ((rd_T29 l0 x31_2).f3)) := (blk_cell BK172.out 3).trans rfl; have hcz55_4 : w49.cell? ⟨gb172, 4, none⟩ = some (.string ((rd_T29 l0 x31_2).f4)) := (blk_cell BK172.out 4).trans rfl; have hcz55_5 : w49.cell? ⟨gb172, 5, none⟩ = some (.slice A171_5 ((rd_T29 l0 x31_2).f5).length c171_5) := (blk_cell BK172.out 5).trans rfl; have hfz55_0 := blk_frozen BK172.out 0; have hfz55_1 := blk_frozen BK172.out 1; have hfz55_2 := blk_frozen BK172.out 2; have hfz55_3 := blk_frozen BK172.out 3; have hfz55_4 := blk_frozen BK172.out 4; have hfz55_5 := blk_frozen BK172.out 5)))
      go_roundg k2
      case measure => have := HK1.out; have := HK2.out; omega
      case rel => exact ⟨(wrap64 (t173 + ((rd_T29 l0 x31_2).f1))), (wrap64 (t174 + ((rd_T29 l0 x31_2).f3))), (true), (t185), (wrap64 (x31_2 + 1)), eqNow, eqNow, eqNow, eqNow, eqNow, H', ⟨by have := HK1.out; have := HK2.out; omega⟩, ⟨belPut⟩⟩
     subst c28
     have H1 : (if ((rd_T29 l0 x31_2).f3) > 0 then (some (some 112)) else ((hunks_sides.f ((rd_T29 l0 x31_2).f0) ((rd_T29 l0 x31_2).f1) ((rd_T29 l0 x31_2).f2) ((rd_T29 l0 x31_2).f3) ((rd_T29 l0 x31_2).f4) ((rd_T29 l0 x31_2).f5)).bind fun bt175 => (hunks_Order.l1 k2 (wrap64 (t173 + ((rd_T29 l0 x31_2).f1))) (wrap64 (t174 + ((rd_T29 l0 x31_2).f3))) true true l0 (l0.length : Int) (wrap64 (x31_2 + 1))))) = some r := by rw [if_pos rfl] at H; exact H
     clear H
     have H := H1
     clear H1
     by_cases c29 : ((rd_T29 l0 x31_2).f3) > 0
     ·rw [if_pos c29] at H
      have c29b0 : decide (0 < ((rd_T29 l0 x31_2).f3)) = true := decide_eq_true c29
      clear c29
      obtain rfl := Option.some.inj H
      have p171 : 0 ≤ (x31_2 : Int) := ofDec
      have q171 : x31_2 < (l0.length : Int) := ofDec
      obtain ⟨ad171, A171_5, c171_5, e171, hx171_0, hx171_1, hx171_2, hx171_3, hx171_4, hx171_5, hl171_5, hi171_5⟩ := at_T29 HR0.out x31_2 p171 q171
      cases e171
      replace hx171_0 := cUp HB.out hx171_0
      replace hx171_1 := cUp HB.out hx171_1
      replace hx171_2 := cUp HB.out hx171_2
      replace hx171_3 := cUp HB.out hx171_3
      replace hx171_4 := cUp HB.out hx171_4
      replace hx171_5 := cUp HB.out hx171_5
      have HR171_5 := Aside0.mk hi171_5
      have HC171_5 := Aside0.mk hl171_5
      clear hi171_5 hl171_5
      replace p171 := eq_true p171
      replace q171 := eq_true q171
      go_wp2_with (((with_reducible refine gate_dst (N := 11) rfl ?_); refine boxEv (N := 11) #[.int .i64 0, .int .i64 0, .int .i64 0, .int .i64 0, .string (⟨#[]⟩ : ByteArray), .slice none 0 0] 29 ?_; intro gb172 hg w30 hbox hb; have n0_ := Aside0.mk (below_step belNow hb); have n1_ := Aside0.mk (hbox); have n2_ := Aside0.mk (bszNow (w := w) hg); have n3_ := Aside0.mk (bszNow (w := w) hg); clear HB; have HB := n0_; have BK172 := n1_; have GW172 := n2_; have GE172 := n3_; clear n0_ n1_ n2_ n3_; clear hb hbox hg; have hcz31_0 : w30.cell? ⟨gb172, 0, none⟩ = some (.int .i64 0) := (blk_cell BK172.out 0).trans rfl; have hcz31_1 : w30.cell? ⟨gb172, 1, none⟩ = some (.int .i64 0) := (blk_cell BK172.out 1).trans rfl; have hcz31_2 : w30.cell? ⟨gb172, 2, none⟩ = some (.int .i64 0) := (blk_cell BK172.out 2).trans rfl; have hcz31_3 : w30.cell? ⟨gb172, 3, none⟩ = some (.int .i64 0) := (blk_cell BK172.out 3).trans rfl; have hcz31_4 : w30.cell? ⟨gb172, 4, none⟩ = some (.string (⟨#[]⟩ : ByteArray)) := (blk_cell BK172.out 4).trans rfl; have hcz31_5 : w30.cell? ⟨gb172, 5, none⟩ = some (.slice none 0 0) := (blk_cell BK172.out 5).trans rfl; have hfz31_0 := blk_frozen BK172.out 0; have hfz31_1 := blk_frozen BK172.out 1; have hfz31_2 := blk_frozen BK172.out 2; have hfz31_3 := blk_frozen BK172.out 3; have hfz31_4 := blk_frozen BK172.out 4; have hfz31_5 := blk_frozen BK172.out 5))
      repeat (go_quiet (first | (go_at_call 46; (with_reducible refine (hunks_ahead.calls ((rd_T29 l0 x31_2).f0) ((rd_T29 l0 x31_2).f1) t173 _ A15.out).mono ?_); rintro e w' ⟨rfl, ⟨nd, rfl⟩⟩; (try first | exact ⟨rfl, _, World.drewN_drewN _ _ _⟩ | exact ⟨rfl, _, Eq.trans (World.drewN_drewN _ _ _) (congrArg (World.drewN _) (Nat.add_assoc _ _ _))⟩)) | (go_at_call 46; (with_reducible refine (hunks_ahead.calls ((rd_T29 l0 x31_2).f2) ((rd_T29 l0 x31_2).f3) t174 _ A16.out).mono ?_); rintro e w' ⟨rfl, ⟨nd, rfl⟩⟩; (try first | exact ⟨rfl, _, World.drewN_drewN _ _ _⟩ | exact ⟨rfl, _, Eq.trans (World.drewN_drewN _ _ _) (congrArg (World.drewN _) (Nat.add_assoc _ _ _))⟩))); try go_wp2_with (fail))
      go_ret
      exact ⟨eqEnd, belPut⟩
     rw [if_neg c29] at H
     have c29b0 : decide (0 < ((rd_T29 l0 x31_2).f3)) = false := decide_eq_false c29
     clear c29
     replace H := Option.bind_eq_some_iff.mp H
     obtain ⟨⟨t175, t176, t177, t178, t179⟩, A320, H⟩ := H
     replace H : (hunks_Order.l1 k2 (wrap64 (t173 + ((rd_T29 l0 x31_2).f1))) (wrap64 (t174 + ((rd_T29 l0 x31_2).f3))) true true l0 (l0.length : Int) (wrap64 (x31_2 + 1))) = some r := H
     have A32 := Aside0.mk A320
     clear A320
     have H' := Aside0.mk H
     clear H
     have p171 : 0 ≤ (x31_2 : Int) := ofDec
     have q171 : x31_2 < (l0.length : Int) := ofDec
     obtain ⟨ad171, A171_5, c171_5, e171, hx171_0, hx171_1, hx171_2, hx171_3, hx171_4, hx171_5, hl171_5, hi171_5⟩ := at_T29 HR0.out x31_2 p171 q171
     cases e171
     replace hx171_0 := cUp HB.out hx171_0
     replace hx171_1 := cUp HB.out hx171_1
     replace hx171_2 := cUp HB.out hx171_2
     replace hx171_3 := cUp HB.out hx171_3
     replace hx171_4 := cUp HB.out hx171_4
     replace hx171_5 := cUp HB.out hx171_5
     have HR171_5 := Aside0.mk hi171_5
     have HC171_5 := Aside0.mk hl171_5
     clear hi171_5 hl171_5
     replace p171 := eq_true p171
     replace q171 := eq_true q171
     go_wp2_with (((with_reducible refine gate_dst (N := 11) rfl ?_); refine boxEv (N := 11) #[.int .i64 0, .int .i64 0, .int .i64 0, .int .i64 0, .string (⟨#[]⟩ : ByteArray), .slice none 0 0] 29 ?_; intro gb172 hg w33 hbox hb; have n0_ := Aside0.mk (below_step belNow hb); have n1_ := Aside0.mk (hbox); have n2_ := Aside0.mk (bszNow (w := w) hg); have n3_ := Aside0.mk (bszNow (w := w) hg); clear HB; have HB := n0_; have BK172 := n1_; have GW172 := n2_; have GE172 := n3_; clear n0_ n1_ n2_ n3_; clear hb hbox hg; have hcz34_0 : w33.cell? ⟨gb172, 0, none⟩ = some (.int .i64 0) := (blk_cell BK172.out 0).trans rfl; have hcz34_1 : w33.cell? ⟨gb172, 1, none⟩ = some (.int .i64 0) := (blk_cell BK172.out 1).trans rfl; have hcz34_2 : w33.cell? ⟨gb172, 2, none⟩ = some (.int .i64 0) := (blk_cell BK172.out 2).trans rfl; have hcz34_3 : w33.cell? ⟨gb172, 3, none⟩ = some (.int .i64 0) := (blk_cell BK172.out 3).trans rfl; have hcz34_4 : w33.cell? ⟨gb172, 4, none⟩ = some (.string (⟨#[]⟩ : ByteArray)) := (blk_cell BK172.out 4).trans rfl; have hcz34_5 : w33.cell? ⟨gb172, 5, none⟩ = some (.slice none 0 0) := (blk_cell BK172.out 5).trans rfl; have hfz34_0 := blk_frozen BK172.out 0; have hfz34_1 := blk_frozen BK172.out 1; have hfz34_2 := blk_frozen BK172.out 2; have hfz34_3 := blk_frozen BK172.out 3; have hfz34_4 := blk_frozen BK172.out 4; have hfz34_5 := blk_frozen BK172.out 5))
     repeat (go_quiet (first | (go_at_call 46; (with_reducible refine (hunks_ahead.calls ((rd_T29 l0 x31_2).f0) ((rd_T29 l0 x31_2).f1) t173 _ A15.out).mono ?_); rintro e w' ⟨rfl, ⟨nd, rfl⟩⟩; (try first | exact ⟨rfl, _, World.drewN_drewN _ _ _⟩ | exact ⟨rfl, _, Eq.trans (World.drewN_drewN _ _ _) (congrArg (World.drewN _) (Nat.add_assoc _ _ _))⟩)) | (go_at_call 46; (with_reducible refine (hunks_ahead.calls ((rd_T29 l0 x31_2).f2) ((rd_T29 l0 x31_2).f3) t174 _ A16.out).mono ?_); rintro e w' ⟨rfl, ⟨nd, rfl⟩⟩; (try first | exact ⟨rfl, _, World.drewN_drewN _ _ _⟩ | exact ⟨rfl, _, Eq.trans (World.drewN_drewN _ _ _) (congrArg (World.drewN _) (Nat.add_assoc _ _ _))⟩))); try go_wp2_with (first | (go_at_call 40; (with_reducible refine (hunks_sides.calls ((rd_T29 l0 x31_2).f0) ((rd_T29 l0 x31_2).f1) ((rd_T29 l0 x31_2).f2) ((rd_T29 l0 x31_2).f3) ((rd_T29 l0 x31_2).f4) _ _ ((rd_T29 l0 x31_2).f5) t175 t176 t177 t178 t179 _ ?side1 ?side2 A32.out).mono ?_); (case side1 => exact Kd.C_below HR171_5.out (belPut)); (case side2 => exact HC171_5.out); rintro e w35 ⟨rfl, hb⟩; have n0_ := Aside0.mk (blk_below (g := gb172) (o := .cells #[.int .i64 ((rd_T29 l0 x31_2).f0), .int .i64 ((rd_T29 l0 x31_2).f1), .int .i64 ((rd_T29 l0 x31_2).f2), .int .i64 ((rd_T29 l0 x31_2).f3), .string ((rd_T29 l0 x31_2).f4), .slice A171_5 ((rd_T29 l0 x31_2).f5).length c171_5] 29 (0, 0)) (by refine bkUp ?_; refine blk_put (cs := #[.int .i64 ((rd_T29 l0 x31_2).f0), .int .i64 ((rd_T29 l0 x31_2).f1), .int .i64 ((rd_T29 l0 x31_2).f2), .int .i64 ((rd_T29 l0 x31_2).f3), .string ((rd_T29 l0 x31_2).f4), .slice none 0 0]) ?_ 5 _ rfl; refine bkUp ?_; refine blk_put (cs := #[.int .i64 ((rd_T29 l0 x31_2).f0), .int .i64 ((rd_T29 l0 x31_2).f1), .int .i64 ((rd_T29 l0 x31_2).f2), .int .i64 ((rd_T29 l0 x31_2).f3), .string (⟨#[]⟩ : ByteArray), .slice none 0 0]) ?_ 4 _ rfl; refine bkUp ?_; refine blk_put (cs := #[.int .i64 ((rd_T29 l0 x31_2).f0), .int .i64 ((rd_T29 l0 x31_2).f1), .int .i64 ((rd_T29 l0 x31_2).f2), .int .i64 0, .string (⟨#[]⟩ : ByteArray), .slice none 0 0]) ?_ 3 _ rfl; refine bkUp ?_; refine blk_put (cs := #[.int .i64 ((rd_T29 l0 x31_2).f0), .int .i64 ((rd_T29 l0 x31_2).f1), .int .i64 0, .int .i64 0, .string (⟨#[]⟩ : ByteArray), .slice none 0 0]) ?_ 2 _ rfl; refine bkUp ?_; refine blk_put (cs := #[.int .i64 ((rd_T29 l0 x31_2).f0), .int .i64 0, .int .i64 0, .int .i64 0, .string (⟨#[]⟩ : ByteArray), .slice none 0 0]) ?_ 1 _ rfl; refine bkUp ?_; refine blk_put (cs := #[.int .i64 0, .int .i64 0, .int .i64 0, .int .i64 0, .string (⟨#[]⟩ : ByteArray), .slice none 0 0]) ?_ 0 _ rfl; exact bkUp BK172.out) hb); have n1_ := Aside0.mk (below_step (belPut) hb); clear BK172 HB; have BK172 := n0_; have HB := n1_; clear n0_ n1_; (try clear hb); (try clear hb2); (try clear hk); (try clear hi)) | ((with_reducible refine gate_dst (N := 14) rfl ?_); refine boxEv (N := 14) #[.int .i64 0, .bool false] 77 ?_; intro gb180 hg w36 hbox hb; have n0_ := Aside0.mk (blk_below (g := gb172) (o := .cells #[.int .i64 ((rd_T29 l0 x31_2).f0), .int .i64 ((rd_T29 l0 x31_2).f1), .int .i64 ((rd_T29 l0 x31_2).f2), .int .i64 ((rd_T29 l0 x31_2).f3), .string ((rd_T29 l0 x31_2).f4), .slice A171_5 ((rd_T29 l0 x31_2).f5).length c171_5] 29 (0, 0)) (bkUp BK172.out) hb); have n1_ := Aside0.mk (below_step (belPut) hb); have n2_ := Aside0.mk (hbox); have n3_ := Aside0.mk ((by rw [hg]; exact (below_size (belPut)) : w.heap.size ≤ gb180)); have n4_ := Aside0.mk ((by rw [hg]; exact (below_size (belPut)) : w.heap.size ≤ gb180)); have n5_ := Aside0.mk ((by rw [hg]; exact Nat.ne_of_lt (blk_lt (g := gb172) (o := .cells #[.int .i64 ((rd_T29 l0 x31_2).f0), .int .i64 ((rd_T29 l0 x31_2).f1), .int .i64 ((rd_T29 l0 x31_2).f2), .int .i64 ((rd_T29 l0 x31_2).f3), .string ((rd_T29 l0 x31_2).f4), .slice A171_5 ((rd_T29 l0 x31_2).f5).length c171_5] 29 (0, 0)) (bkUp BK172.out)) : gb172 ≠ gb180)); have n6_ := Aside0.mk ((by rw [hg]; exact Nat.ne_of_gt (blk_lt (g := gb172) (o := .cells #[.int .i64 ((rd_T29 l0 x31_2).f0), .int .i64 ((rd_T29 l0 x31_2).f1), .int .i64 ((rd_T29 l0 x31_2).f2), .int .i64 ((rd_T29 l0 x31_2).f3), .string ((rd_T29 l0 x31_2).f4), .slice A171_5 ((rd_T29 l0 x31_2).f5).length c171_5] 29 (0, 0)) (bkUp BK172.out)) : gb180 ≠ gb172)); clear BK172 HB; have BK172 := n0_; have HB := n1_; have BK180 := n2_; have GW180 := n3_; have GE180 := n4_; have NB172_180 := n5_; have NB180_172 := n6_; clear n0_ n1_ n2_ n3_ n4_ n5_ n6_; clear hb hbox hg) | ((with_reducible refine gate_dst (N := 15) rfl ?_); refine boxEv (N := 15) #[.int .i64 0, .bool false] 77 ?_; intro gb181 hg w37 hbox hb; have n0_ := Aside0.mk (blk_below (g := gb172) (o := .cells #[.int .i64 ((rd_T29 l0 x31_2).f0), .int .i64 ((rd_T29 l0 x31_2).f1), .int .i64 ((rd_T29 l0 x31_2).f2), .int .i64 ((rd_T29 l0 x31_2).f3), .string ((rd_T29 l0 x31_2).f4), .slice A171_5 ((rd_T29 l0 x31_2).f5).length c171_5] 29 (0, 0)) (bkUp BK172.out) hb); have n1_ := Aside0.mk (blk_below (g := gb180) (o := .cells #[.int .i64 0, .bool false] 77 (0, 0)) (bkUp BK180.out) hb); have n2_ := Aside0.mk (below_step (belPut) hb); have n3_ := Aside0.mk (hbox); have n4_ := Aside0.mk ((by rw [hg]; exact (below_size (belPut)) : w.heap.size ≤ gb181)); have n5_ := Aside0.mk ((by rw [hg]; exact (below_size (belPut)) : w.heap.size ≤ gb181)); have n6_ := Aside0.mk ((by rw [hg]; exact Nat.ne_of_lt (blk_lt (g := gb172) (o := .cells #[.int .i64 ((rd_T29 l0 x31_2).f0), .int .i64 ((rd_T29 l0 x31_2).f1), .int .i64 ((rd_T29 l0 x31_2).f2), .int .i64 ((rd_T29 l0 x31_2).f3), .string ((rd_T29 l0 x31_2).f4), .slice A171_5 ((rd_T29 l0 x31_2).f5).length c171_5] 29 (0, 0)) (bkUp BK172.out)) : gb172 ≠ gb181)); have n7_ := Aside0.mk ((by rw [hg]; exact Nat.ne_of_gt (blk_lt (g := gb172) (o := .cells #[.int .i64 ((rd_T29 l0 x31_2).f0), .int .i64 ((rd_T29 l0 x31_2).f1), .int .i64 ((rd_T29 l0 x31_2).f2), .int .i64 ((rd_T29 l0 x31_2).f3), .string ((rd_T29 l0 x31_2).f4), .slice A171_5 ((rd_T29 l0 x31_2).f5).length c171_5] 29 (0, 0)) (bkUp BK172.out)) : gb181 ≠ gb172)); have n8_ := Aside0.mk ((by rw [hg]; exact Nat.ne_of_lt (blk_lt (g := gb180) (o := .cells #[.int .i64 0, .bool false] 77 (0, 0)) (bkUp BK180.out)) : gb180 ≠ gb181)); have n9_ := Aside0.mk ((by rw [hg]; exact Nat.ne_of_gt (blk_lt (g := gb180) (o := .cells #[.int .i64 0, .bool false] 77 (0, 0)) (bkUp BK180.out)) : gb181 ≠ gb180)); clear BK172 BK180 HB; have BK172 := n0_; have BK180 := n1_; have HB := n2_; have BK181 := n3_; have GW181 := n4_; have GE181 := n5_; have NB172_181 := n6_; have NB181_172 := n7_; have NB180_181 := n8_; have NB181_180 := n9_; clear n0_ n1_ n2_ n3_ n4_ n5_ n6_ n7_ n8_ n9_; clear hb hbox hg; have hnb38 := NB180_172.out; have hnc38 := NB172_180.out; have hnb39 := NB180_181.out; have hnc39 := NB181_180.out; have hcz40_0 : w37.cell? ⟨gb180, 0, none⟩ = some (.int .i64 0) := (blk_cell BK180.out 0).trans rfl; have hcz40_1 : w37.cell? ⟨gb180, 1, none⟩ = some (.bool false) := (blk_cell BK180.out 1).trans rfl; have hfz40_0 := blk_frozen BK180.out 0; have hfz40_1 := blk_frozen BK180.out 1; have hnb41 := NB181_172.out; have hnc41 := NB172_181.out; have hcz42_0 : w37.cell? ⟨gb181, 0, none⟩ = some (.int .i64 0) := (blk_cell BK181.out 0).trans rfl; have hcz42_1 : w37.cell? ⟨gb181, 1, none⟩ = some (.bool false) := (blk_cell BK181.out 1).trans rfl; have hfz42_0 := blk_frozen BK181.out 0; have hfz42_1 := blk_frozen BK181.out 1; have hcz43_0 : w37.cell? ⟨gb172, 0, none⟩ = some (.int .i64 ((rd_T29 l0 x31_2).f0)) := (blk_cell BK172.out 0).trans rfl; have hcz43_1 : w37.cell? ⟨gb172, 1, none⟩ = some (.int .i64 ((rd_T29 l0 x31_2).f1)) := (blk_cell BK172.out 1).trans rfl; have hcz43_2 : w37.cell? ⟨gb172, 2, none⟩ = some (.int .i64 ((rd_T29 l0 x31_2).f2)) := (blk_cell BK172.out 2).trans rfl; have hcz43_3 : w37.cell? ⟨gb172, 3, none⟩ = some (.int .i64 ((rd_T29 l0 x31_2).f3)) := (blk_cell BK172.out 3).trans rfl; have hcz43_4 : w37.cell? ⟨gb172, 4, none⟩ = some (.string ((rd_T29 l0 x31_2).f4)) := (blk_cell BK172.out 4).trans rfl; have hcz43_5 : w37.cell? ⟨gb172, 5, none⟩ = some (.slice A171_5 ((rd_T29 l0 x31_2).f5).length c171_5) := (blk_cell BK172.out 5).trans rfl; have hfz43_0 := blk_frozen BK172.out 0; have hfz43_1 := blk_frozen BK172.out 1; have hfz43_2 := blk_frozen BK172.out 2; have hfz43_3 := blk_frozen BK172.out 3; have hfz43_4 := blk_frozen BK172.out 4; have hfz43_5 := blk_frozen BK172.out 5)))
     go_roundg k2
     case measure => have := HK1.out; have := HK2.out; omega
     case rel => exact ⟨(wrap64 (t173 + ((rd_T29 l0 x31_2).f1))), (wrap64 (t174 + ((rd_T29 l0 x31_2).f3))), (true), (true), (wrap64 (x31_2 + 1)), eqNow, eqNow, eqNow, eqNow, eqNow, H', ⟨by have := HK1.out; have := HK2.out; omega⟩, ⟨belPut⟩⟩
def selvageref10_Place.f (a0 : Int) (a1 : Int) : Option (Int) := if a1 > 0 then (some (wrap64 (a0 - 1))) else (some a0)
set_option maxHeartbeats 8000000 in
set_option maxRecDepth 100000 in
theorem selvageref10_Place.calls (a0 : Int) (a1 : Int) (r : Int) (w : World) (h : selvageref10_Place.f a0 a1 = some r) :
  Calls Tryz.prog 47 #[.int .i64 a0, .int .i64 a1] w fun e w' => e = .returned (.int .i64 r) ∧ Drawn0 w w' := by
 have H : (if a1 > 0 then (some (wrap64 (a0 - 1))) else (some a0)) = some r := h
 clear h
 by_cases c3 : a1 > 0
 ·rw [if_pos c3] at H
  have c3b0 : decide (0 < a1) = true := decide_eq_true c3
  clear c3
  obtain rfl := Option.some.inj H
  go_enter Tryz.func47, Tryz.ntmps47
  go_wp2
  go_ret
  exact ⟨eqFin, drawnNow⟩
 rw [if_neg c3] at H
 have c3b0 : decide (0 < a1) = false := decide_eq_false c3
 clear c3
 obtain rfl := Option.some.inj H
 go_enter Tryz.func47, Tryz.ntmps47
 go_wp2
 go_ret
 exact ⟨eqFin, drawnNow⟩
end Go.Proofs.YtecjoofjiockkaaGreatDoor.Pp
