import Derived.Test.YtecjoofjiockkaaGreatDoorESr
import Derived.Test.YtecjoofjiockkaaGreatDoorPp0
import Derived.Test.YtecjoofjiockkaaGreatDoorPp4
import Derived.Test.YtecjoofjiockkaaGreatDoorPp6
import Derived.Test.YtecjoofjiockkaaGreatDoorPp8
namespace Go.Proofs.YtecjoofjiockkaaGreatDoor.Pp
open Go.RowKit Go.Proofs.YtecjoofjiockkaaGreatDoor.Ext Go.Proofs.YtecjoofjiockkaaGreatDoorW.PrintWords Go.Proofs.YtecjoofjiockkaaGreatDoorW.PrintLast Go.Proofs.YtecjoofjiockkaaGreatDoorW.PrintMore
attribute [local go_sem] max2_int min2_int max_two min_two max_three min_three max_four min_four   -- for this text's walks alone
set_option linter.unusedVariables false
set_option linter.unusedSimpArgs false
def selvageref10_partial.l0 : Nat → Bool → Bool → Int → Int → Int → Int → Int → ByteArray → List (S53) → Option (Bool × Bool)
 | 0, _, _, _, _, _, _, _, _, _ => none
 | k + 1, x4, x5, x6, x204000, x204001, x204002, x204003, x204004, x204005 => if x6 < (x204005.length : Int) then (if 0 ≤ x6 then ((selvageref01_Whole.f ((rd_T53 x204005 x6).f1)).bind fun t205 => (if x4 = true then (if x5 = true then (selvageref10_partial.l0 k true true (wrap64 (x6 + 1)) x204000 x204001 x204002 x204003 x204004 x204005) else (if t205 = true then (selvageref10_partial.l0 k true false (wrap64 (x6 + 1)) x204000 x204001 x204002 x204003 x204004 x204005) else ((selvageref10_fresh.f ((rd_T53 x204005 x6).f0) ((rd_T53 x204005 x6).f1)).bind fun t207 => (selvageref10_partial.l0 k true t207 (wrap64 (x6 + 1)) x204000 x204001 x204002 x204003 x204004 x204005)))) else (if t205 = true then (if x5 = true then (selvageref10_partial.l0 k false true (wrap64 (x6 + 1)) x204000 x204001 x204002 x204003 x204004 x204005) else (selvageref10_partial.l0 k false false (wrap64 (x6 + 1)) x204000 x204001 x204002 x204003 x204004 x204005)) else ((selvageref10_old.f ((rd_T53 x204005 x6).f0) ((rd_T53 x204005 x6).f1)).bind fun t209 => (if x5 = true then (selvageref10_partial.l0 k t209 true (wrap64 (x6 + 1)) x204000 x204001 x204002 x204003 x204004 x204005) else ((selvageref10_fresh.f ((rd_T53 x204005 x6).f0) ((rd_T53 x204005 x6).f1)).bind fun t211 => (selvageref10_partial.l0 k t209 t211 (wrap64 (x6 + 1)) x204000 x204001 x204002 x204003 x204004 x204005))))))) else (none)) else (some (x4, x5))
def selvageref10_partial.f (k : Nat) (a0_0 : Int) (a0_1 : Int) (a0_2 : Int) (a0_3 : Int) (a0_4 : ByteArray) (l0_5 : List (S53)) : Option (Bool × Bool) := selvageref10_partial.l0 k false false 0 a0_0 a0_1 a0_2 a0_3 a0_4 l0_5
set_option maxHeartbeats 8000000 in
set_option maxRecDepth 100000 in
theorem selvageref10_partial.calls (k : Nat) (a0_0 : Int) (a0_1 : Int) (a0_2 : Int) (a0_3 : Int) (a0_4 : ByteArray) (A0_5 : Option Addr) (c0_5 : Nat) (l0_5 : List (S53)) (r1 : Bool) (r2 : Bool) (w : World) (hr0_5 : Kd.C k53 w A0_5 l0_5.length l0_5) (hc0_5 : l0_5.length ≤ c0_5) (h : selvageref10_partial.f k a0_0 a0_1 a0_2 a0_3 a0_4 l0_5 = some (r1, r2)) :
  Calls Tryz.prog 48 #[.agg #[.int .i64 a0_0, .int .i64 a0_1, .int .i64 a0_2, .int .i64 a0_3, .string a0_4, .slice A0_5 l0_5.length c0_5]] w fun e w' => e = .returned (.tuple #[.bool r1, .bool r2]) ∧ Below w.heap.size w w' := by
 have hu29 := Tryz.underlying29
 have hu53 := Tryz.underlying53
 have HR0_5 := Aside0.mk hr0_5
 have HC0_5 := Aside0.mk hc0_5
 clear hr0_5 hc0_5
 have HB := Aside0.mk (Below.refl w.heap.size w)
 have H : (selvageref10_partial.l0 k false false 0 a0_0 a0_1 a0_2 a0_3 a0_4 l0_5) = some (r1, r2) := h
 clear h
 have H' := Aside0.mk H
 clear H
 go_enter Tryz.func48, Tryz.ntmps48
 go_wp2_with (((with_reducible refine gate_dst (N := 1) rfl ?_); refine boxEv (N := 1) #[.int .i64 a0_0, .int .i64 a0_1, .int .i64 a0_2, .int .i64 a0_3, .string a0_4, .slice A0_5 l0_5.length c0_5] 29 ?_; intro gb203 hg w2 hbox hb; have n0_ := Aside0.mk (below_step belNow hb); have n1_ := Aside0.mk (hbox); have n2_ := Aside0.mk (bszNow (w := w) hg); have n3_ := Aside0.mk (bszNow (w := w) hg); clear HB; have HB := n0_; have BK203 := n1_; have GW203 := n2_; have GE203 := n3_; clear n0_ n1_ n2_ n3_; clear hb hbox hg))
 go_loopg [4, 5, 6] k (fun kq v4 v5 v6 w' => ∃ (x4_1 : Bool) (x5_1 : Bool) (x6_1 : Int), v4 = .bool x4_1 ∧ v5 = .bool x5_1 ∧ v6 = .int .i64 x6_1 ∧ Aside0 (selvageref10_partial.l0 kq x4_1 x5_1 x6_1 a0_0 a0_1 a0_2 a0_3 a0_4 l0_5 = some (r1, r2)) ∧ Aside0 (kq ≤ k) ∧ Aside0 (w'.heap[gb203]? = some (.cells #[.int .i64 a0_0, .int .i64 a0_1, .int .i64 a0_2, .int .i64 a0_3, .string a0_4, (.slice A0_5 l0_5.length c0_5)] 29 (0, 0))) ∧ Aside0 (Below w.heap.size w w'))
 case atStart => exact ⟨(false), (false), (0), eqNow, eqNow, eqNow, H', ⟨Nat.le_refl _⟩, ⟨by exact bkUp BK203.out⟩, ⟨belPut⟩⟩
 case round =>
  clear H'
  try clear p2
  obtain ⟨x4_1, x5_1, x6_1, rfl, rfl, rfl, HA, HK1, BK203, HB⟩ := hrel
  cases gk with
  | zero => exact absurd HA.out (by simp [selvageref10_partial.l0])
  | succ k1 =>
   have H := HA.out
   clear HA
   simp only [selvageref10_partial.l0] at H
   by_cases c3 : x6_1 < (l0_5.length : Int)
   rotate_left
   ·rw [if_neg c3] at H
    have c3b0 : decide (x6_1 < (l0_5.length : Int)) = false := decide_eq_false c3
    clear c3
    simp only [Option.some.injEq, Prod.mk.injEq] at H
    obtain ⟨rfl, rfl⟩ := H
    have hcz27_0 : wr.cell? ⟨gb203, 0, none⟩ = some (.int .i64 a0_0) := (blk_cell BK203.out 0).trans rfl
    have hcz27_1 : wr.cell? ⟨gb203, 1, none⟩ = some (.int .i64 a0_1) := (blk_cell BK203.out 1).trans rfl
    have hcz27_2 : wr.cell? ⟨gb203, 2, none⟩ = some (.int .i64 a0_2) := (blk_cell BK203.out 2).trans rfl
    have hcz27_3 : wr.cell? ⟨gb203, 3, none⟩ = some (.int .i64 a0_3) := (blk_cell BK203.out 3).trans rfl
    have hcz27_4 : wr.cell? ⟨gb203, 4, none⟩ = some (.string a0_4) := (blk_cell BK203.out 4).trans rfl
    have hcz27_5 : wr.cell? ⟨gb203, 5, none⟩ = some (.slice A0_5 l0_5.length c0_5) := (blk_cell BK203.out 5).trans rfl
    have hfz27_0 := blk_frozen BK203.out 0
    have hfz27_1 := blk_frozen BK203.out 1
    have hfz27_2 := blk_frozen BK203.out 2
    have hfz27_3 := blk_frozen BK203.out 3
    have hfz27_4 := blk_frozen BK203.out 4
    have hfz27_5 := blk_frozen BK203.out 5
    go_wp2
    go_ret2
    exact ⟨eqEnd, belPut⟩
   rw [if_pos c3] at H
   have c3b0 : decide (x6_1 < (l0_5.length : Int)) = true := decide_eq_true c3
   clear c3
   by_cases c4 : 0 ≤ x6_1
   rotate_left
   ·rw [if_neg c4] at H
    exact absurd H (by simp)
   rw [if_pos c4] at H
   have c4b0 : decide (0 ≤ x6_1) = true := decide_eq_true c4
   clear c4
   replace H := Option.bind_eq_some_iff.mp H
   obtain ⟨t205, A50, H⟩ := H
   replace H : (if x4_1 = true then (if x5_1 = true then (selvageref10_partial.l0 k1 true true (wrap64 (x6_1 + 1)) a0_0 a0_1 a0_2 a0_3 a0_4 l0_5) else (if t205 = true then (selvageref10_partial.l0 k1 true false (wrap64 (x6_1 + 1)) a0_0 a0_1 a0_2 a0_3 a0_4 l0_5) else ((selvageref10_fresh.f ((rd_T53 l0_5 x6_1).f0) ((rd_T53 l0_5 x6_1).f1)).bind fun t207 => (selvageref10_partial.l0 k1 true t207 (wrap64 (x6_1 + 1)) a0_0 a0_1 a0_2 a0_3 a0_4 l0_5)))) else (if t205 = true then (if x5_1 = true then (selvageref10_partial.l0 k1 false true (wrap64 (x6_1 + 1)) a0_0 a0_1 a0_2 a0_3 a0_4 l0_5) else (selvageref10_partial.l0 k1 false false (wrap64 (x6_1 + 1)) a0_0 a0_1 a0_2 a0_3 a0_4 l0_5)) else ((selvageref10_old.f ((rd_T53 l0_5 x6_1).f0) ((rd_T53 l0_5 x6_1).f1)).bind fun t209 => (if x5_1 = true then (selvageref10_partial.l0 k1 t209 true (wrap64 (x6_1 + 1)) a0_0 a0_1 a0_2 a0_3 a0_4 l0_5) else ((selvageref10_fresh.f ((rd_T53 l0_5 x6_1).f0) ((rd_T53 l0_5 x6_1).f1)).bind fun t211 => (selvageref10_partial.l0 k1 t209 t211 (wrap64 (x6_1 + 1)) a0_0 a0_1 a0_2 a0_3 a0_4 l0_5)))))) = some (r1, r2) := H
   have A5 := Aside0.mk A50
   clear A50
   by_cases c6 : x4_1 = true
   ·subst c6
    have H1 : (if x5_1 = true then (selvageref10_partial.l0 k1 true true (wrap64 (x6_1 + 1)) a0_0 a0_1 a0_2 a0_3 a0_4 l0_5) else (if t205 = true then (selvageref10_partial.l0 k1 true false (wrap64 (x6_1 + 1)) a0_0 a0_1 a0_2 a0_3 a0_4 l0_5) else ((selvageref10_fresh.f ((rd_T53 l0_5 x6_1).f0) ((rd_T53 l0_5 x6_1).f1)).bind fun t207 => (selvageref10_partial.l0 k1 true t207 (wrap64 (x6_1 + 1)) a0_0 a0_1 a0_2 a0_3 a0_4 l0_5)))) = some (r1, r2) := by rw [if_pos rfl] at H; exact H
    clear H
    have H := H1
    clear H1
    by_cases c7 : x5_1 = true
    ·subst c7
     have H1 : (selvageref10_partial.l0 k1 true true (wrap64 (x6_1 + 1)) a0_0 a0_1 a0_2 a0_3 a0_4 l0_5) = some (r1, r2) := by rw [if_pos rfl] at H; exact H
     clear H
     have H := H1
     clear H1
     have H' := Aside0.mk H
     clear H
     have hcz8_0 : wr.cell? ⟨gb203, 0, none⟩ = some (.int .i64 a0_0) := (blk_cell BK203.out 0).trans rfl
     have hcz8_1 : wr.cell? ⟨gb203, 1, none⟩ = some (.int .i64 a0_1) := (blk_cell BK203.out 1).trans rfl
     have hcz8_2 : wr.cell? ⟨gb203, 2, none⟩ = some (.int .i64 a0_2) := (blk_cell BK203.out 2).trans rfl
     have hcz8_3 : wr.cell? ⟨gb203, 3, none⟩ = some (.int .i64 a0_3) := (blk_cell BK203.out 3).trans rfl
     have hcz8_4 : wr.cell? ⟨gb203, 4, none⟩ = some (.string a0_4) := (blk_cell BK203.out 4).trans rfl
     have hcz8_5 : wr.cell? ⟨gb203, 5, none⟩ = some (.slice A0_5 l0_5.length c0_5) := (blk_cell BK203.out 5).trans rfl
     have hfz8_0 := blk_frozen BK203.out 0
     have hfz8_1 := blk_frozen BK203.out 1
     have hfz8_2 := blk_frozen BK203.out 2
     have hfz8_3 := blk_frozen BK203.out 3
     have hfz8_4 := blk_frozen BK203.out 4
     have hfz8_5 := blk_frozen BK203.out 5
     have p204 : 0 ≤ (x6_1 : Int) := ofDec
     have q204 : x6_1 < (l0_5.length : Int) := ofDec
     obtain ⟨ad204, e204, hx204_0, hx204_1⟩ := at_T53 HR0_5.out x6_1 p204 q204
     cases e204
     replace hx204_0 := cUp HB.out hx204_0
     replace hx204_1 := cUp HB.out hx204_1
     replace p204 := eq_true p204
     replace q204 := eq_true q204
     go_wp2_with (((with_reducible refine gate_callee (f := 58) rfl ?_); refine goesL_ (some 21) rfl rfl Tryz.func58 (by kernel_rfl) rfl #[.string ((rd_T53 l0_5 x6_1).f1)] rfl argsOk ?_; (with_reducible refine (selvageref01_Whole.calls ((rd_T53 l0_5 x6_1).f1) t205 _ A5.out).mono ?_); rintro e w' ⟨rfl, ⟨nd, rfl⟩⟩; refine ⟨_, rfl, ?_⟩))
     go_roundg k1
     case measure => have := HK1.out; omega
     case rel => exact ⟨(true), (true), (wrap64 (x6_1 + 1)), eqNow, eqNow, eqNow, H', ⟨by have := HK1.out; omega⟩, ⟨by exact bkUp BK203.out⟩, ⟨belPut⟩⟩
    replace c7 := Bool.eq_false_iff.mpr c7
    subst c7
    have H1 : (if t205 = true then (selvageref10_partial.l0 k1 true false (wrap64 (x6_1 + 1)) a0_0 a0_1 a0_2 a0_3 a0_4 l0_5) else ((selvageref10_fresh.f ((rd_T53 l0_5 x6_1).f0) ((rd_T53 l0_5 x6_1).f1)).bind fun t207 => (selvageref10_partial.l0 k1 true t207 (wrap64 (x6_1 + 1)) a0_0 a0_1 a0_2 a0_3 a0_4 l0_5))) = some (r1, r2) := by rw [if_neg (show ¬ (false = true) by decide)] at H; exact H
    clear H
    have H := H1
    clear H1
    by_cases c9 : t205 = true
    ·subst c9
     have H1 : (selvageref10_partial.l0 k1 true false (wrap64 (x6_1 + 1)) a0_0 a0_1 a0_2 a0_3 a0_4 l0_5) = some (r1, r2) := by rw [if_pos rfl] at H; exact H
     clear H
     have H := H1
     clear H1
     have H' := Aside0.mk H
     clear H
     have hcz10_0 : wr.cell? ⟨gb203, 0, none⟩ = some (.int .i64 a0_0) := (blk_cell BK203.out 0).trans rfl
     have hcz10_1 : wr.cell? ⟨gb203, 1, none⟩ = some (.int .i64 a0_1) := (blk_cell BK203.out 1).trans rfl
     have hcz10_2 : wr.cell? ⟨gb203, 2, none⟩ = some (.int .i64 a0_2) := (blk_cell BK203.out 2).trans rfl
     have hcz10_3 : wr.cell? ⟨gb203, 3, none⟩ = some (.int .i64 a0_3) := (blk_cell BK203.out 3).trans rfl
     have hcz10_4 : wr.cell? ⟨gb203, 4, none⟩ = some (.string a0_4) := (blk_cell BK203.out 4).trans rfl
     have hcz10_5 : wr.cell? ⟨gb203, 5, none⟩ = some (.slice A0_5 l0_5.length c0_5) := (blk_cell BK203.out 5).trans rfl
     have hfz10_0 := blk_frozen BK203.out 0
     have hfz10_1 := blk_frozen BK203.out 1
     have hfz10_2 := blk_frozen BK203.out 2
     have hfz10_3 := blk_frozen BK203.out 3
     have hfz10_4 := blk_frozen BK203.out 4
     have hfz10_5 := blk_frozen BK203.out 5
     have p204 : 0 ≤ (x6_1 : Int) := ofDec
     have q204 : x6_1 < (l0_5.length : Int) := ofDec
     obtain ⟨ad204, e204, hx204_0, hx204_1⟩ := at_T53 HR0_5.out x6_1 p204 q204
     cases e204
     replace hx204_0 := cUp HB.out hx204_0
     replace hx204_1 := cUp HB.out hx204_1
     replace p204 := eq_true p204
     replace q204 := eq_true q204
     go_wp2_with (((with_reducible refine gate_callee (f := 58) rfl ?_); refine goesL_ (some 21) rfl rfl Tryz.func58 (by kernel_rfl) rfl #[.string ((rd_T53 l0_5 x6_1).f1)] rfl argsOk ?_; (with_reducible refine (selvageref01_Whole.calls ((rd_T53 l0_5 x6_1).f1) true _ A5.out).mono ?_); rintro e w' ⟨rfl, ⟨nd, rfl⟩⟩; refine ⟨_, rfl, ?_⟩))
     go_roundg k1
     case measure => have := HK1.out; omega
     case rel => exact ⟨(true), (false), (wrap64 (x6_1 + 1)), eqNow, eqNow, eqNow, H', ⟨by have := HK1.out; omega⟩, ⟨by exact bkUp BK203.out⟩, ⟨belPut⟩⟩
    replace c9 := Bool.eq_false_iff.mpr c9
    subst c9
    have H1 : ((selvageref10_fresh.f ((rd_T53 l0_5 x6_1).f0) ((rd_T53 l0_5 x6_1).f1)).bind fun t207 => (selvageref10_partial.l0 k1 true t207 (wrap64 (x6_1 + 1)) a0_0 a0_1 a0_2 a0_3 a0_4 l0_5)) = some (r1, r2) := by rw [if_neg (show ¬ (false = true) by decide)] at H; exact H
    clear H
    have H := H1
    clear H1
    replace H := Option.bind_eq_some_iff.mp H
    obtain ⟨t207, A110, H⟩ := H
    replace H : (selvageref10_partial.l0 k1 true t207 (wrap64 (x6_1 + 1)) a0_0 a0_1 a0_2 a0_3 a0_4 l0_5) = some (r1, r2) := H
    have A11 := Aside0.mk A110
    clear A110
    have H' := Aside0.mk H
    clear H
    have hcz12_0 : wr.cell? ⟨gb203, 0, none⟩ = some (.int .i64 a0_0) := (blk_cell BK203.out 0).trans rfl
    have hcz12_1 : wr.cell? ⟨gb203, 1, none⟩ = some (.int .i64 a0_1) := (blk_cell BK203.out 1).trans rfl
    have hcz12_2 : wr.cell? ⟨gb203, 2, none⟩ = some (.int .i64 a0_2) := (blk_cell BK203.out 2).trans rfl
    have hcz12_3 : wr.cell? ⟨gb203, 3, none⟩ = some (.int .i64 a0_3) := (blk_cell BK203.out 3).trans rfl
    have hcz12_4 : wr.cell? ⟨gb203, 4, none⟩ = some (.string a0_4) := (blk_cell BK203.out 4).trans rfl
    have hcz12_5 : wr.cell? ⟨gb203, 5, none⟩ = some (.slice A0_5 l0_5.length c0_5) := (blk_cell BK203.out 5).trans rfl
    have hfz12_0 := blk_frozen BK203.out 0
    have hfz12_1 := blk_frozen BK203.out 1
    have hfz12_2 := blk_frozen BK203.out 2
    have hfz12_3 := blk_frozen BK203.out 3
    have hfz12_4 := blk_frozen BK203.out 4
    have hfz12_5 := blk_frozen BK203.out 5
    have p204 : 0 ≤ (x6_1 : Int) := ofDec
    have q204 : x6_1 < (l0_5.length : Int) := ofDec
    obtain ⟨ad204, e204, hx204_0, hx204_1⟩ := at_T53 HR0_5.out x6_1 p204 q204
    cases e204
    replace hx204_0 := cUp HB.out hx204_0
    replace hx204_1 := cUp HB.out hx204_1
    replace p204 := eq_true p204
    replace q204 := eq_true q204
    go_wp2_with (first | ((with_reducible refine gate_callee (f := 58) rfl ?_); refine goesL_ (some 21) rfl rfl Tryz.func58 (by kernel_rfl) rfl #[.string ((rd_T53 l0_5 x6_1).f1)] rfl argsOk ?_; (with_reducible refine (selvageref01_Whole.calls ((rd_T53 l0_5 x6_1).f1) false _ A5.out).mono ?_); rintro e w' ⟨rfl, ⟨nd, rfl⟩⟩; refine ⟨_, rfl, ?_⟩; have p206 : 0 ≤ (x6_1 : Int) := ofDec; have q206 : x6_1 < (l0_5.length : Int) := ofDec; obtain ⟨ad206, e206, hx206_0, hx206_1⟩ := at_T53 HR0_5.out x6_1 p206 q206; obtain rfl : ad204 = ad206 := (by injection e206); replace hx206_0 := (HB.out.cell (World.block_lt_of_cell? w _ hx206_0)).trans hx206_0; replace hx206_1 := (HB.out.cell (World.block_lt_of_cell? w _ hx206_1)).trans hx206_1; replace p206 := eq_true p206; replace q206 := eq_true q206) | (go_at_call 69; (with_reducible refine (selvageref10_fresh.calls ((rd_T53 l0_5 x6_1).f0) ((rd_T53 l0_5 x6_1).f1) t207 _ A11.out).mono ?_); rintro e w13 ⟨rfl, hb⟩; have n0_ := Aside0.mk (blk_below (g := gb203) (o := .cells #[.int .i64 a0_0, .int .i64 a0_1, .int .i64 a0_2, .int .i64 a0_3, .string a0_4, .slice (some ad204) l0_5.length c0_5] 29 (0, 0)) (bkUp BK203.out) hb); have n1_ := Aside0.mk (below_step (belPut) hb); clear BK203 HB; have BK203 := n0_; have HB := n1_; clear n0_ n1_; (try clear hb); (try clear hb2); (try clear hk); (try clear hi)))
    go_roundg k1
    case measure => have := HK1.out; omega
    case rel => exact ⟨(true), (t207), (wrap64 (x6_1 + 1)), eqNow, eqNow, eqNow, H', ⟨by have := HK1.out; omega⟩, ⟨by exact bkUp BK203.out⟩, ⟨belPut⟩⟩
   replace c6 := Bool.eq_false_iff.mpr c6
   subst c6
   have H1 : (if t205 = true then (if x5_1 = true then (selvageref10_partial.l0 k1 false true (wrap64 (x6_1 + 1)) a0_0 a0_1 a0_2 a0_3 a0_4 l0_5) else (selvageref10_partial.l0 k1 false false (wrap64 (x6_1 + 1)) a0_0 a0_1 a0_2 a0_3 a0_4 l0_5)) else ((selvageref10_old.f ((rd_T53 l0_5 x6_1).f0) ((rd_T53 l0_5 x6_1).f1)).bind fun t209 => (if x5_1 = true then (selvageref10_partial.l0 k1 t209 true (wrap64 (x6_1 + 1)) a0_0 a0_1 a0_2 a0_3 a0_4 l0_5) else ((selvageref10_fresh.f ((rd_T53 l0_5 x6_1).f0) ((rd_T53 l0_5 x6_1).f1)).bind fun t211 => (selvageref10_partial.l0 k1 t209 t211 (wrap64 (x6_1 + 1)) a0_0 a0_1 a0_2 a0_3 a0_4 l0_5))))) = some (r1, r2) := by rw [if_neg (show ¬ (false = true) by decide)] at H; exact H
   clear H
   have H := H1
   clear H1
   by_cases c14 : t205 = true
   ·subst c14
    have H1 : (if x5_1 = true then (selvageref10_partial.l0 k1 false true (wrap64 (x6_1 + 1)) a0_0 a0_1 a0_2 a0_3 a0_4 l0_5) else (selvageref10_partial.l0 k1 false false (wrap64 (x6_1 + 1)) a0_0 a0_1 a0_2 a0_3 a0_4 l0_5)) = some (r1, r2) := by rw [if_pos rfl] at H; exact H
    clear H
    have H := H1
    clear H1
    by_cases c15 : x5_1 = true
    ·subst c15
     have H1 : (selvageref10_partial.l0 k1 false true (wrap64 (x6_1 + 1)) a0_0 a0_1 a0_2 a0_3 a0_4 l0_5) = some (r1, r2) := by rw [if_pos rfl] at H; exact H
     clear H
     have H := H1
     clear H1
     have H' := Aside0.mk H
     clear H
     have hcz16_0 : wr.cell? ⟨gb203, 0, none⟩ = some (.int .i64 a0_0) := (blk_cell BK203.out 0).trans rfl
     have hcz16_1 : wr.cell? ⟨gb203, 1, none⟩ = some (.int .i64 a0_1) := (blk_cell BK203.out 1).trans rfl
     have hcz16_2 : wr.cell? ⟨gb203, 2, none⟩ = some (.int .i64 a0_2) := (blk_cell BK203.out 2).trans rfl
     have hcz16_3 : wr.cell? ⟨gb203, 3, none⟩ = some (.int .i64 a0_3) := (blk_cell BK203.out 3).trans rfl
     have hcz16_4 : wr.cell? ⟨gb203, 4, none⟩ = some (.string a0_4) := (blk_cell BK203.out 4).trans rfl
     have hcz16_5 : wr.cell? ⟨gb203, 5, none⟩ = some (.slice A0_5 l0_5.length c0_5) := (blk_cell BK203.out 5).trans rfl
     have hfz16_0 := blk_frozen BK203.out 0
     have hfz16_1 := blk_frozen BK203.out 1
     have hfz16_2 := blk_frozen BK203.out 2
     have hfz16_3 := blk_frozen BK203.out 3
     have hfz16_4 := blk_frozen BK203.out 4
     have hfz16_5 := blk_frozen BK203.out 5
     have p204 : 0 ≤ (x6_1 : Int) := ofDec
     have q204 : x6_1 < (l0_5.length : Int) := ofDec
     obtain ⟨ad204, e204, hx204_0, hx204_1⟩ := at_T53 HR0_5.out x6_1 p204 q204
     cases e204
     replace hx204_0 := cUp HB.out hx204_0
     replace hx204_1 := cUp HB.out hx204_1
     replace p204 := eq_true p204
     replace q204 := eq_true q204
     go_wp2_with (((with_reducible refine gate_callee (f := 58) rfl ?_); refine goesL_ (some 21) rfl rfl Tryz.func58 (by kernel_rfl) rfl #[.string ((rd_T53 l0_5 x6_1).f1)] rfl argsOk ?_; (with_reducible refine (selvageref01_Whole.calls ((rd_T53 l0_5 x6_1).f1) true _ A5.out).mono ?_); rintro e w' ⟨rfl, ⟨nd, rfl⟩⟩; refine ⟨_, rfl, ?_⟩))
     go_roundg k1
     case measure => have := HK1.out; omega
     case rel => exact ⟨(false), (true), (wrap64 (x6_1 + 1)), eqNow, eqNow, eqNow, H', ⟨by have := HK1.out; omega⟩, ⟨by exact bkUp BK203.out⟩, ⟨belPut⟩⟩
    replace c15 := Bool.eq_false_iff.mpr c15
    subst c15
    have H1 : (selvageref10_partial.l0 k1 false false (wrap64 (x6_1 + 1)) a0_0 a0_1 a0_2 a0_3 a0_4 l0_5) = some (r1, r2) := by rw [if_neg (show ¬ (false = true) by decide)] at H; exact H
    clear H
    have H := H1
    clear H1
    have H' := Aside0.mk H
    clear H
    have hcz17_0 : wr.cell? ⟨gb203, 0, none⟩ = some (.int .i64 a0_0) := (blk_cell BK203.out 0).trans rfl
    have hcz17_1 : wr.cell? ⟨gb203, 1, none⟩ = some (.int .i64 a0_1) := (blk_cell BK203.out 1).trans rfl
    have hcz17_2 : wr.cell? ⟨gb203, 2, none⟩ = some (.int .i64 a0_2) := (blk_cell BK203.out 2).trans rfl
    have hcz17_3 : wr.cell? ⟨gb203, 3, none⟩ = some (.int .i64 a0_3) := (blk_cell BK203.out 3).trans rfl
    have hcz17_4 : wr.cell? ⟨gb203, 4, none⟩ = some (.string a0_4) := (blk_cell BK203.out 4).trans rfl
    have hcz17_5 : wr.cell? ⟨gb203, 5, none⟩ = some (.slice A0_5 l0_5.length c0_5) := (blk_cell BK203.out 5).trans rfl
    have hfz17_0 := blk_frozen BK203.out 0
    have hfz17_1 := blk_frozen BK203.out 1
    have hfz17_2 := blk_frozen BK203.out 2
    have hfz17_3 := blk_frozen BK203.out 3
    have hfz17_4 := blk_frozen BK203.out 4
    have hfz17_5 := blk_frozen BK203.out 5
    have p204 : 0 ≤ (x6_1 : Int) := ofDec
    have q204 : x6_1 < (l0_5.length : Int) := ofDec
    obtain ⟨ad204, e204, hx204_0, hx204_1⟩ := at_T53 HR0_5.out x6_1 p204 q204
    cases e204
    replace hx204_0 := cUp HB.out hx204_0
    replace hx204_1 := cUp HB.out hx204_1
    replace p204 := eq_true p204
    replace q204 := eq_true q204
    go_wp2_with (((with_reducible refine gate_callee (f := 58) rfl ?_); refine goesL_ (some 21) rfl rfl Tryz.func58 (by kernel_rfl) rfl #[.string ((rd_T53 l0_5 x6_1).f1)] rfl argsOk ?_; (with_reducible refine (selvageref01_Whole.calls ((rd_T53 l0_5 x6_1).f1) true _ A5.out).mono ?_); rintro e w' ⟨rfl, ⟨nd, rfl⟩⟩; refine ⟨_, rfl, ?_⟩))
    go_roundg k1
    case measure => have := HK1.out; omega
    case rel => exact ⟨(false), (false), (wrap64 (x6_1 + 1)), eqNow, eqNow, eqNow, H', ⟨by have := HK1.out; omega⟩, ⟨by exact bkUp BK203.out⟩, ⟨belPut⟩⟩
   replace c14 := Bool.eq_false_iff.mpr c14
   subst c14
   have H1 : ((selvageref10_old.f ((rd_T53 l0_5 x6_1).f0) ((rd_T53 l0_5 x6_1).f1)).bind fun t209 => (if x5_1 = true then (selvageref10_partial.l0 k1 t209 true (wrap64 (x6_1 + 1)) a0_0 a0_1 a0_2 a0_3 a0_4 l0_5) else ((selvageref10_fresh.f ((rd_T53 l0_5 x6_1).f0) ((rd_T53 l0_5 x6_1).f1)).bind fun t211 => (selvageref10_partial.l0 k1 t209 t211 (wrap64 (x6_1 + 1)) a0_0 a0_1 a0_2 a0_3 a0_4 l0_5)))) = some (r1, r2) := by rw [if_neg (show ¬ (false = true) by decide)] at H; exact H
   clear H
   have H := H1
   clear H1
   replace H := Option.bind_eq_some_iff.mp H
   obtain ⟨t209, A180, H⟩ := H
   replace H : (if x5_1 = true then (selvageref10_partial.l0 k1 t209 true (wrap64 (x6_1 + 1)) a0_0 a0_1 a0_2 a0_3 a0_4 l0_5) else ((selvageref10_fresh.f ((rd_T53 l0_5 x6_1).f0) ((rd_T53 l0_5 x6_1).f1)).bind fun t211 => (selvageref10_partial.l0 k1 t209 t211 (wrap64 (x6_1 + 1)) a0_0 a0_1 a0_2 a0_3 a0_4 l0_5))) = some (r1, r2) := H
   have A18 := Aside0.mk A180
   clear A180
   by_cases c19 : x5_1 = true
   ·subst c19
    have H1 : (selvageref10_partial.l0 k1 t209 true (wrap64 (x6_1 + 1)) a0_0 a0_1 a0_2 a0_3 a0_4 l0_5) = some (r1, r2) := by rw [if_pos rfl] at H; exact H
    clear H
    have H := H1
    clear H1
    have H' := Aside0.mk H
    clear H
    have hcz20_0 : wr.cell? ⟨gb203, 0, none⟩ = some (.int .i64 a0_0) := (blk_cell BK203.out 0).trans rfl
    have hcz20_1 : wr.cell? ⟨gb203, 1, none⟩ = some (.int .i64 a0_1) := (blk_cell BK203.out 1).trans rfl
    have hcz20_2 : wr.cell? ⟨gb203, 2, none⟩ = some (.int .i64 a0_2) := (blk_cell BK203.out 2).trans rfl
    have hcz20_3 : wr.cell? ⟨gb203, 3, none⟩ = some (.int .i64 a0_3) := (blk_cell BK203.out 3).trans rfl
    have hcz20_4 : wr.cell? ⟨gb203, 4, none⟩ = some (.string a0_4) := (blk_cell BK203.out 4).trans rfl
    have hcz20_5 : wr.cell? ⟨gb203, 5, none⟩ = some (.slice A0_5 l0_5.length c0_5) := (blk_cell BK203.out 5).trans rfl
    have hfz20_0 := blk_frozen BK203.out 0
    have hfz20_1 := blk_frozen BK203.out 1
    have hfz20_2 := blk_frozen BK203.out 2
    have hfz20_3 := blk_frozen BK203.out 3
    have hfz20_4 := blk_frozen BK203.out 4
    have hfz20_5 := blk_frozen BK203.out 5
    have p204 : 0 ≤ (x6_1 : Int) := ofDec
    have q204 : x6_1 < (l0_5.length : Int) := ofDec
    obtain ⟨ad204, e204, hx204_0, hx204_1⟩ := at_T53 HR0_5.out x6_1 p204 q204
    cases e204
    replace hx204_0 := cUp HB.out hx204_0
    replace hx204_1 := cUp HB.out hx204_1
    replace p204 := eq_true p204
    replace q204 := eq_true q204
    go_wp2_with (first | ((with_reducible refine gate_callee (f := 58) rfl ?_); refine goesL_ (some 21) rfl rfl Tryz.func58 (by kernel_rfl) rfl #[.string ((rd_T53 l0_5 x6_1).f1)] rfl argsOk ?_; (with_reducible refine (selvageref01_Whole.calls ((rd_T53 l0_5 x6_1).f1) false _ A5.out).mono ?_); rintro e w' ⟨rfl, ⟨nd, rfl⟩⟩; refine ⟨_, rfl, ?_⟩; have p208 : 0 ≤ (x6_1 : Int) := ofDec; have q208 : x6_1 < (l0_5.length : Int) := ofDec; obtain ⟨ad208, e208, hx208_0, hx208_1⟩ := at_T53 HR0_5.out x6_1 p208 q208; obtain rfl : ad204 = ad208 := (by injection e208); replace hx208_0 := (HB.out.cell (World.block_lt_of_cell? w _ hx208_0)).trans hx208_0; replace hx208_1 := (HB.out.cell (World.block_lt_of_cell? w _ hx208_1)).trans hx208_1; replace p208 := eq_true p208; replace q208 := eq_true q208) | (go_at_call 68; (with_reducible refine (selvageref10_old.calls ((rd_T53 l0_5 x6_1).f0) ((rd_T53 l0_5 x6_1).f1) t209 _ A18.out).mono ?_); rintro e w21 ⟨rfl, hb⟩; have n0_ := Aside0.mk (blk_below (g := gb203) (o := .cells #[.int .i64 a0_0, .int .i64 a0_1, .int .i64 a0_2, .int .i64 a0_3, .string a0_4, .slice (some ad204) l0_5.length c0_5] 29 (0, 0)) (bkUp BK203.out) hb); have n1_ := Aside0.mk (below_step (belPut) hb); clear BK203 HB; have BK203 := n0_; have HB := n1_; clear n0_ n1_; (try clear hb); (try clear hb2); (try clear hk); (try clear hi)))
    go_roundg k1
    case measure => have := HK1.out; omega
    case rel => exact ⟨(t209), (true), (wrap64 (x6_1 + 1)), eqNow, eqNow, eqNow, H', ⟨by have := HK1.out; omega⟩, ⟨by exact bkUp BK203.out⟩, ⟨belPut⟩⟩
   replace c19 := Bool.eq_false_iff.mpr c19
   subst c19
   have H1 : ((selvageref10_fresh.f ((rd_T53 l0_5 x6_1).f0) ((rd_T53 l0_5 x6_1).f1)).bind fun t211 => (selvageref10_partial.l0 k1 t209 t211 (wrap64 (x6_1 + 1)) a0_0 a0_1 a0_2 a0_3 a0_4 l0_5)) = some (r1, r2) := by rw [if_neg (show ¬ (false = true) by decide)] at H; exact H
   clear H
   have H := H1
   clear H1
   replace H := Option.bind_eq_some_iff.mp H
   obtain ⟨t211, A220, H⟩ := H
   replace H : (selvageref10_partial.l0 k1 t209 t211 (wrap64 (x6_1 + 1)) a0_0 a0_1 a0_2 a0_3 a0_4 l0_5) = some (r1, r2) := H
   have A22 := Aside0.mk A220
   clear A220
   have H' := Aside0.mk H
   clear H
   have hcz23_0 : wr.cell? ⟨gb203, 0, none⟩ = some (.int .i64 a0_0) := (blk_cell BK203.out 0).trans rfl
   have hcz23_1 : wr.cell? ⟨gb203, 1, none⟩ = some (.int .i64 a0_1) := (blk_cell BK203.out 1).trans rfl
   have hcz23_2 : wr.cell? ⟨gb203, 2, none⟩ = some (.int .i64 a0_2) := (blk_cell BK203.out 2).trans rfl
   have hcz23_3 : wr.cell? ⟨gb203, 3, none⟩ = some (.int .i64 a0_3) := (blk_cell BK203.out 3).trans rfl
   have hcz23_4 : wr.cell? ⟨gb203, 4, none⟩ = some (.string a0_4) := (blk_cell BK203.out 4).trans rfl
   have hcz23_5 : wr.cell? ⟨gb203, 5, none⟩ = some (.slice A0_5 l0_5.length c0_5) := (blk_cell BK203.out 5).trans rfl
   have hfz23_0 := blk_frozen BK203.out 0
   have hfz23_1 := blk_frozen BK203.out 1
   have hfz23_2 := blk_frozen BK203.out 2
   have hfz23_3 := blk_frozen BK203.out 3
   have hfz23_4 := blk_frozen BK203.out 4
   have hfz23_5 := blk_frozen BK203.out 5
   have p204 : 0 ≤ (x6_1 : Int) := ofDec
   have q204 : x6_1 < (l0_5.length : Int) := ofDec
   obtain ⟨ad204, e204, hx204_0, hx204_1⟩ := at_T53 HR0_5.out x6_1 p204 q204
   cases e204
   replace hx204_0 := cUp HB.out hx204_0
   replace hx204_1 := cUp HB.out hx204_1
   replace p204 := eq_true p204
   replace q204 := eq_true q204
   go_wp2_with (first | ((with_reducible refine gate_callee (f := 58) rfl ?_); refine goesL_ (some 21) rfl rfl Tryz.func58 (by kernel_rfl) rfl #[.string ((rd_T53 l0_5 x6_1).f1)] rfl argsOk ?_; (with_reducible refine (selvageref01_Whole.calls ((rd_T53 l0_5 x6_1).f1) false _ A5.out).mono ?_); rintro e w' ⟨rfl, ⟨nd, rfl⟩⟩; refine ⟨_, rfl, ?_⟩; have p208 : 0 ≤ (x6_1 : Int) := ofDec; have q208 : x6_1 < (l0_5.length : Int) := ofDec; obtain ⟨ad208, e208, hx208_0, hx208_1⟩ := at_T53 HR0_5.out x6_1 p208 q208; obtain rfl : ad204 = ad208 := (by injection e208); replace hx208_0 := (HB.out.cell (World.block_lt_of_cell? w _ hx208_0)).trans hx208_0; replace hx208_1 := (HB.out.cell (World.block_lt_of_cell? w _ hx208_1)).trans hx208_1; replace p208 := eq_true p208; replace q208 := eq_true q208) | (go_at_call 68; (with_reducible refine (selvageref10_old.calls ((rd_T53 l0_5 x6_1).f0) ((rd_T53 l0_5 x6_1).f1) t209 _ A18.out).mono ?_); rintro e w24 ⟨rfl, hb⟩; have n0_ := Aside0.mk (blk_below (g := gb203) (o := .cells #[.int .i64 a0_0, .int .i64 a0_1, .int .i64 a0_2, .int .i64 a0_3, .string a0_4, .slice (some ad204) l0_5.length c0_5] 29 (0, 0)) (bkUp BK203.out) hb); have n1_ := Aside0.mk (below_step (belPut) hb); clear BK203 HB; have BK203 := n0_; have HB := n1_; clear n0_ n1_; (try clear hb); (try clear hb2); (try clear hk); (try clear hi); have hcz25_0 : w24.cell? ⟨gb203, 0, none⟩ = some (.int .i64 a0_0) := (blk_cell BK203.out 0).trans rfl; have hcz25_1 : w24.cell? ⟨gb203, 1, none⟩ = some (.int .i64 a0_1) := (blk_cell BK203.out 1).trans rfl; have hcz25_2 : w24.cell? ⟨gb203, 2, none⟩ = some (.int .i64 a0_2) := (blk_cell BK203.out 2).trans rfl; have hcz25_3 : w24.cell? ⟨gb203, 3, none⟩ = some (.int .i64 a0_3) := (blk_cell BK203.out 3).trans rfl; have hcz25_4 : w24.cell? ⟨gb203, 4, none⟩ = some (.string a0_4) := (blk_cell BK203.out 4).trans rfl; have hcz25_5 : w24.cell? ⟨gb203, 5, none⟩ = some (.slice (some ad204) l0_5.length c0_5) := (blk_cell BK203.out 5).trans rfl; have hfz25_0 := blk_frozen BK203.out 0; have hfz25_1 := blk_frozen BK203.out 1; have hfz25_2 := blk_frozen BK203.out 2; have hfz25_3 := blk_frozen BK203.out 3; have hfz25_4 := blk_frozen BK203.out 4; have hfz25_5 := blk_frozen BK203.out 5; have p210 : 0 ≤ (x6_1 : Int) := ofDec; have q210 : x6_1 < (l0_5.length : Int) := ofDec; obtain ⟨ad210, e210, hx210_0, hx210_1⟩ := at_T53 HR0_5.out x6_1 p210 q210; obtain rfl : ad204 = ad210 := (by injection e210); replace hx210_0 := (HB.out.cell (World.block_lt_of_cell? w _ hx210_0)).trans hx210_0; replace hx210_1 := (HB.out.cell (World.block_lt_of_cell? w _ hx210_1)).trans hx210_1; replace p210 := eq_true p210; replace q210 := eq_true q210) | (go_at_call 69; (with_reducible refine (selvageref10_fresh.calls ((rd_T53 l0_5 x6_1).f0) ((rd_T53 l0_5 x6_1).f1) t211 _ A22.out).mono ?_); rintro e w26 ⟨rfl, hb⟩; have n0_ := Aside0.mk (blk_below (g := gb203) (o := .cells #[.int .i64 a0_0, .int .i64 a0_1, .int .i64 a0_2, .int .i64 a0_3, .string a0_4, .slice (some ad204) l0_5.length c0_5] 29 (0, 0)) (bkUp BK203.out) hb); have n1_ := Aside0.mk (below_step (belPut) hb); clear BK203 HB; have BK203 := n0_; have HB := n1_; clear n0_ n1_; (try clear hb); (try clear hb2); (try clear hk); (try clear hi)))
   go_roundg k1
   case measure => have := HK1.out; omega
   case rel => exact ⟨(t209), (t211), (wrap64 (x6_1 + 1)), eqNow, eqNow, eqNow, H', ⟨by have := HK1.out; omega⟩, ⟨by exact bkUp BK203.out⟩, ⟨belPut⟩⟩
mutual
def selvageref10_Order.l0 : Nat → List (S29) → Int → Option (Int)
 | 0, _, _ => none
 | k + 1, x0, x3 => if x3 < (x0.length : Int) then (if 0 ≤ x3 then ((selvageref10_Valid.f k ((rd_T29 x0 x3).f0) ((rd_T29 x0 x3).f1) ((rd_T29 x0 x3).f2) ((rd_T29 x0 x3).f3) ((rd_T29 x0 x3).f4) ((rd_T29 x0 x3).f5)).bind fun t213 => (if t213 = 0 then (selvageref10_Order.l0 k x0 (wrap64 (x3 + 1))) else (some 100))) else (none)) else (selvageref10_Order.l1 k x0 0 0 false false 0)
def selvageref10_Order.l1 : Nat → List (S29) → Int → Int → Bool → Bool → Int → Option (Int)
 | 0, _, _, _, _, _, _ => none
 | k + 1, x0, x4, x5, x6, x7, x8 => if x8 < (x0.length : Int) then (if 0 ≤ x8 then ((selvageref10_Place.f ((rd_T29 x0 x8).f0) ((rd_T29 x0 x8).f1)).bind fun t216 => ((selvageref10_Place.f ((rd_T29 x0 x8).f2) ((rd_T29 x0 x8).f3)).bind fun t217 => (if t216 < x4 then (some 112) else (if t217 < x5 then (some 112) else (if (wrap64 (t216 - t217)) = (wrap64 (x4 - x5)) then (if x6 = true then (if ((rd_T29 x0 x8).f1) > 0 then (some 112) else (if x7 = true then (if ((rd_T29 x0 x8).f3) > 0 then (some 112) else ((selvageref10_partial.f k ((rd_T29 x0 x8).f0) ((rd_T29 x0 x8).f1) ((rd_T29 x0 x8).f2) ((rd_T29 x0 x8).f3) ((rd_T29 x0 x8).f4) ((rd_T29 x0 x8).f5)).bind fun bt218 => (selvageref10_Order.l1 k x0 (wrap64 (t216 + ((rd_T29 x0 x8).f1))) (wrap64 (t217 + ((rd_T29 x0 x8).f3))) true true (wrap64 (x8 + 1))))) else ((selvageref10_partial.f k ((rd_T29 x0 x8).f0) ((rd_T29 x0 x8).f1) ((rd_T29 x0 x8).f2) ((rd_T29 x0 x8).f3) ((rd_T29 x0 x8).f4) ((rd_T29 x0 x8).f5)).bind fun bt220 => (selvageref10_Order.l1 k x0 (wrap64 (t216 + ((rd_T29 x0 x8).f1))) (wrap64 (t217 + ((rd_T29 x0 x8).f3))) true bt220.2 (wrap64 (x8 + 1)))))) else (if x7 = true then (if ((rd_T29 x0 x8).f3) > 0 then (some 112) else ((selvageref10_partial.f k ((rd_T29 x0 x8).f0) ((rd_T29 x0 x8).f1) ((rd_T29 x0 x8).f2) ((rd_T29 x0 x8).f3) ((rd_T29 x0 x8).f4) ((rd_T29 x0 x8).f5)).bind fun bt222 => (selvageref10_Order.l1 k x0 (wrap64 (t216 + ((rd_T29 x0 x8).f1))) (wrap64 (t217 + ((rd_T29 x0 x8).f3))) bt222.1 true (wrap64 (x8 + 1))))) else ((selvageref10_partial.f k ((rd_T29 x0 x8).f0) ((rd_T29 x0 x8).f1) ((rd_T29 x0 x8).f2) ((rd_T29 x0 x8).f3) ((rd_T29 x0 x8).f4) ((rd_T29 x0 x8).f5)).bind fun bt224 => (selvageref10_Order.l1 k x0 (wrap64 (t216 + ((rd_T29 x0 x8).f1))) (wrap64 (t217 + ((rd_T29 x0 x8).f3))) bt224.1 bt224.2 (wrap64 (x8 + 1)))))) else (some 112)))))) else (none)) else (some 0)
end
def selvageref10_Order.f (k : Nat) (l0 : List (S29)) : Option (Int) := selvageref10_Order.l0 k l0 0
set_option maxHeartbeats 80000000 in
set_option maxRecDepth 100000 in
theorem selvageref10_Order.calls (k : Nat) (A0 : Option Addr) (c0 : Nat) (l0 : List (S29)) (r : Int) (w : World) (hr0 : Kd.C k29 w A0 l0.length l0) (hc0 : l0.length ≤ c0) (h : selvageref10_Order.f k l0 = some r) :
  Calls Tryz.prog 16 #[.slice A0 l0.length c0] w fun e w' => e = .returned (.int .i64 r) ∧ Below w.heap.size w w' := by
 have hu29 := Tryz.underlying29
 have HR0 := Aside0.mk hr0
 have HC0 := Aside0.mk hc0
 clear hr0 hc0
 have HB := Aside0.mk (Below.refl w.heap.size w)
 have H : (selvageref10_Order.l0 k l0 0) = some r := h
 clear h
 have H' := Aside0.mk H
 clear H
 go_enter Tryz.func16, Tryz.ntmps16
 try simp only [List.append_eq, List.cons_append, List.nil_append]
 go_wp2
 go_loopg [3] k (fun kq v3 w' => ∃ (x3_1 : Int), v3 = .int .i64 x3_1 ∧ Aside0 (selvageref10_Order.l0 kq l0 x3_1 = some r) ∧ Aside0 (kq ≤ k) ∧ Aside0 (Below w.heap.size w w'))
 case atStart => exact ⟨(0), eqNow, H', ⟨Nat.le_refl _⟩, ⟨belNow⟩⟩
 case round =>
  clear H'
  try clear c1
  obtain ⟨x3_1, rfl, HA, HK1, HB⟩ := hrel
  cases gk with
  | zero => exact absurd HA.out (by simp [selvageref10_Order.l0])
  | succ k1 =>
   have H := HA.out
   clear HA
   simp only [selvageref10_Order.l0] at H
   by_cases c2 : x3_1 < (l0.length : Int)
   ·rw [if_pos c2] at H
    have c2b0 : decide (x3_1 < (l0.length : Int)) = true := decide_eq_true c2
    clear c2
    by_cases c3 : 0 ≤ x3_1
    rotate_left
    ·rw [if_neg c3] at H
     exact absurd H (by simp)
    rw [if_pos c3] at H
    have c3b0 : decide (0 ≤ x3_1) = true := decide_eq_true c3
    clear c3
    replace H := Option.bind_eq_some_iff.mp H
    obtain ⟨t213, A40, H⟩ := H
    replace H : (if t213 = 0 then (selvageref10_Order.l0 k1 l0 (wrap64 (x3_1 + 1))) else (some 100)) = some r := H
    have A4 := Aside0.mk A40
    clear A40
    by_cases c5 : t213 = 0
    rotate_left
    ·rw [if_neg c5] at H
     have c5b0 : (t213 == 0) = false := beq_eq_false_iff_ne.mpr c5
     have c5b1 : (t213 != 0) = true := bne_iff_ne.mpr c5
     obtain rfl := Option.some.inj H
     have p212 : 0 ≤ (x3_1 : Int) := ofDec
     have q212 : x3_1 < (l0.length : Int) := ofDec
     obtain ⟨ad212, A212_5, c212_5, e212, hx212_0, hx212_1, hx212_2, hx212_3, hx212_4, hx212_5, hl212_5, hi212_5⟩ := at_T29 HR0.out x3_1 p212 q212
     cases e212
     replace hx212_0 := cUp HB.out hx212_0
     replace hx212_1 := cUp HB.out hx212_1
     replace hx212_2 := cUp HB.out hx212_2
     replace hx212_3 := cUp HB.out hx212_3
     replace hx212_4 := cUp HB.out hx212_4
     replace hx212_5 := cUp HB.out hx212_5
     have HR212_5 := Aside0.mk hi212_5
     have HC212_5 := Aside0.mk hl212_5
     clear hi212_5 hl212_5
     replace p212 := eq_true p212
     replace q212 := eq_true q212
     go_wp2_with (((with_reducible refine gate_callee (f := 13) rfl ?_); refine goesL_ (some 24) rfl rfl Tryz.func13 (by kernel_rfl) rfl #[.agg #[.int .i64 ((rd_T29 l0 x3_1).f0), .int .i64 ((rd_T29 l0 x3_1).f1), .int .i64 ((rd_T29 l0 x3_1).f2), .int .i64 ((rd_T29 l0 x3_1).f3), .string ((rd_T29 l0 x3_1).f4), .slice A212_5 ((rd_T29 l0 x3_1).f5).length c212_5]] rfl argsOk ?_; (with_reducible refine (selvageref10_Valid.calls k1 ((rd_T29 l0 x3_1).f0) ((rd_T29 l0 x3_1).f1) ((rd_T29 l0 x3_1).f2) ((rd_T29 l0 x3_1).f3) ((rd_T29 l0 x3_1).f4) _ _ ((rd_T29 l0 x3_1).f5) t213 _ ?side1 ?side2 A4.out).mono ?_); (case side1 => repeat (first | exact (Kd.C_below HR212_5.out HB.out) | (with_reducible refine Kd.C_alloc ?_ _) | (with_reducible refine Kd.C_drewN ?_ _) | (with_reducible refine Kd.C_drew ?_))); (case side2 => exact HC212_5.out); rintro e w7 ⟨rfl, hb⟩; refine ⟨_, rfl, ?_⟩; have n0_ := Aside0.mk (below_step belNow hb); clear HB; have HB := n0_; clear n0_; (try clear hb); (try clear hb2); (try clear hk); (try clear hi)))
     go_ret
     exact ⟨eqEnd, belNow⟩
    rw [if_pos c5] at H
    have c5b0 : (t213 == 0) = true := beq_iff_eq.mpr c5
    have c5b1 : (t213 != 0) = false := bne_eq_false_iff_eq.mpr c5
    clear c5
    have H' := Aside0.mk H
    clear H
    have p212 : 0 ≤ (x3_1 : Int) := ofDec
    have q212 : x3_1 < (l0.length : Int) := ofDec
    obtain ⟨ad212, A212_5, c212_5, e212, hx212_0, hx212_1, hx212_2, hx212_3, hx212_4, hx212_5, hl212_5, hi212_5⟩ := at_T29 HR0.out x3_1 p212 q212
    cases e212
    replace hx212_0 := cUp HB.out hx212_0
    replace hx212_1 := cUp HB.out hx212_1
    replace hx212_2 := cUp HB.out hx212_2
    replace hx212_3 := cUp HB.out hx212_3
    replace hx212_4 := cUp HB.out hx212_4
    replace hx212_5 := cUp HB.out hx212_5
    have HR212_5 := Aside0.mk hi212_5
    have HC212_5 := Aside0.mk hl212_5
    clear hi212_5 hl212_5
    replace p212 := eq_true p212
    replace q212 := eq_true q212
    go_wp2_with (((with_reducible refine gate_callee (f := 13) rfl ?_); refine goesL_ (some 24) rfl rfl Tryz.func13 (by kernel_rfl) rfl #[.agg #[.int .i64 ((rd_T29 l0 x3_1).f0), .int .i64 ((rd_T29 l0 x3_1).f1), .int .i64 ((rd_T29 l0 x3_1).f2), .int .i64 ((rd_T29 l0 x3_1).f3), .string ((rd_T29 l0 x3_1).f4), .slice A212_5 ((rd_T29 l0 x3_1).f5).length c212_5]] rfl argsOk ?_; (with_reducible refine (selvageref10_Valid.calls k1 ((rd_T29 l0 x3_1).f0) ((rd_T29 l0 x3_1).f1) ((rd_T29 l0 x3_1).f2) ((rd_T29 l0 x3_1).f3) ((rd_T29 l0 x3_1).f4) _ _ ((rd_T29 l0 x3_1).f5) t213 _ ?side1 ?side2 A4.out).mono ?_); (case side1 => repeat (first | exact (Kd.C_below HR212_5.out HB.out) | (with_reducible refine Kd.C_alloc ?_ _) | (with_reducible refine Kd.C_drewN ?_ _) | (with_reducible refine Kd.C_drew ?_))); (case side2 => exact HC212_5.out); rintro e w6 ⟨rfl, hb⟩; refine ⟨_, rfl, ?_⟩; have n0_ := Aside0.mk (below_step belNow hb); clear HB; have HB := n0_; clear n0_; (try clear hb); (try clear hb2); (try clear hk); (try clear hi)))
    go_roundg k1
    case measure => have := HK1.out; omega
    case rel => exact ⟨(wrap64 (x3_1 + 1)), eqNow, H', ⟨by have := HK1.out; omega⟩, ⟨belNow⟩⟩
   rw [if_neg c2] at H
   have c2b0 : decide (x3_1 < (l0.length : Int)) = false := decide_eq_false c2
   clear c2
   have H' := Aside0.mk H
   clear H
   go_wp2
   go_loopg [4, 5, 6, 7, 8] k1 (fun kq v4 v5 v6 v7 v8 w' => ∃ (x4_2 : Int) (x5_2 : Int) (x6_2 : Bool) (x7_2 : Bool) (x8_2 : Int), v4 = .int .i64 x4_2 ∧ v5 = .int .i64 x5_2 ∧ v6 = .bool x6_2 ∧ v7 = .bool x7_2 ∧ v8 = .int .i64 x8_2 ∧ Aside0 (selvageref10_Order.l1 kq l0 x4_2 x5_2 x6_2 x7_2 x8_2 = some r) ∧ Aside0 (kq ≤ k1) ∧ Aside0 (Below w.heap.size w w'))
   case atStart => exact ⟨(0), (0), (false), (false), (0), eqNow, eqNow, eqNow, eqNow, eqNow, H', ⟨Nat.le_refl _⟩, ⟨belNow⟩⟩
   case round =>
    clear H'
    try clear c1
    try clear c2
    try clear c2b0
    try clear p2
    try clear q2
    try clear hx2
    try clear c3
    try clear c3b0
    try clear c5
    try clear c5b0
    try clear c5b1
    try clear p6
    try clear hx212_0
    try clear hx212_1
    try clear hx212_2
    try clear hx212_3
    try clear hx212_4
    try clear hx212_5
    try clear p212
    try clear q212
    obtain ⟨x4_2, x5_2, x6_2, x7_2, x8_2, rfl, rfl, rfl, rfl, rfl, HA, HK2, HB⟩ := hrel
    cases gk with
    | zero => exact absurd HA.out (by simp [selvageref10_Order.l1])
    | succ k2 =>
     have H := HA.out
     clear HA
     simp only [selvageref10_Order.l1] at H
     by_cases c8 : x8_2 < (l0.length : Int)
     rotate_left
     ·rw [if_neg c8] at H
      have c8b0 : decide (x8_2 < (l0.length : Int)) = false := decide_eq_false c8
      clear c8
      obtain rfl := Option.some.inj H
      go_wp2
      go_ret
      exact ⟨eqEnd, belNow⟩
     rw [if_pos c8] at H
     have c8b0 : decide (x8_2 < (l0.length : Int)) = true := decide_eq_true c8
     clear c8
     by_cases c9 : 0 ≤ x8_2
     rotate_left
     ·rw [if_neg c9] at H
      exact absurd H (by simp)
     rw [if_pos c9] at H
     have c9b0 : decide (0 ≤ x8_2) = true := decide_eq_true c9
     clear c9
     replace H := Option.bind_eq_some_iff.mp H
     obtain ⟨t216, A100, H⟩ := H
     replace H : ((selvageref10_Place.f ((rd_T29 l0 x8_2).f2) ((rd_T29 l0 x8_2).f3)).bind fun t217 => (if t216 < x4_2 then (some 112) else (if t217 < x5_2 then (some 112) else (if (wrap64 (t216 - t217)) = (wrap64 (x4_2 - x5_2)) then (if x6_2 = true then (if ((rd_T29 l0 x8_2).f1) > 0 then (some 112) else (if x7_2 = true then (if ((rd_T29 l0 x8_2).f3) > 0 then (some 112) else ((selvageref10_partial.f k2 ((rd_T29 l0 x8_2).f0) ((rd_T29 l0 x8_2).f1) ((rd_T29 l0 x8_2).f2) ((rd_T29 l0 x8_2).f3) ((rd_T29 l0 x8_2).f4) ((rd_T29 l0 x8_2).f5)).bind fun bt218 => (selvageref10_Order.l1 k2 l0 (wrap64 (t216 + ((rd_T29 l0 x8_2).f1))) (wrap64 (t217 + ((rd_T29 l0 x8_2).f3))) true true (wrap64 (x8_2 + 1))))) else ((selvageref10_partial.f k2 ((rd_T29 l0 x8_2).f0) ((rd_T29 l0 x8_2).f1) ((rd_T29 l0 x8_2).f2) ((rd_T29 l0 x8_2).f3) ((rd_T29 l0 x8_2).f4) ((rd_T29 l0 x8_2).f5)).bind fun bt220 => (selvageref10_Order.l1 k2 l0 (wrap64 (t216 + ((rd_T29 l0 x8_2).f1))) (wrap64 (t217 + ((rd_T29 l0 x8_2).f3))) true bt220.2 (wrap64 (x8_2 + 1)))))) else (if x7_2 = true then (if ((rd_T29 l0 x8_2).f3) > 0 then (some 112) else ((selvageref10_partial.f k2 ((rd_T29 l0 x8_2).f0) ((rd_T29 l0 x8_2).f1) ((rd_T29 l0 x8_2).f2) ((rd_T29 l0 x8_2).f3) ((rd_T29 l0 x8_2).f4) ((rd_T29 l0 x8_2).f5)).bind fun bt222 => (selvageref10_Order.l1 k2 l0 (wrap64 (t216 + ((rd_T29 l0 x8_2).f1))) (wrap64 (t217 + ((rd_T29 l0 x8_2).f3))) bt222.1 true (wrap64 (x8_2 + 1))))) else ((selvageref10_partial.f k2 ((rd_T29 l0 x8_2).f0) ((rd_T29 l0 x8_2).f1) ((rd_T29 l0 x8_2).f2) ((rd_T29 l0 x8_2).f3) ((rd_T29 l0 x8_2).f4) ((rd_T29 l0 x8_2).f5)).bind fun bt224 => (selvageref10_Order.l1 k2 l0 (wrap64 (t216 + ((rd_T29 l0 x8_2).f1))) (wrap64 (t217 + ((rd_T29 l0 x8_2).f3))) bt224.1 bt224.2 (wrap64 (x8_2 + 1)))))) else (some 112))))) = some r := H
     have A10 := Aside0.mk A100
     clear A100
     replace H := Option.bind_eq_some_iff.mp H
     obtain ⟨t217, A110, H⟩ := H
     replace H : (if t216 < x4_2 then (some 112) else (if t217 < x5_2 then (some 112) else (if (wrap64 (t216 - t217)) = (wrap64 (x4_2 - x5_2)) then (if x6_2 = true then (if ((rd_T29 l0 x8_2).f1) > 0 then (some 112) else (if x7_2 = true then (if ((rd_T29 l0 x8_2).f3) > 0 then (some 112) else ((selvageref10_partial.f k2 ((rd_T29 l0 x8_2).f0) ((rd_T29 l0 x8_2).f1) ((rd_T29 l0 x8_2).f2) ((rd_T29 l0 x8_2).f3) ((rd_T29 l0 x8_2).f4) ((rd_T29 l0 x8_2).f5)).bind fun bt218 => (selvageref10_Order.l1 k2 l0 (wrap64 (t216 + ((rd_T29 l0 x8_2).f1))) (wrap64 (t217 + ((rd_T29 l0 x8_2).f3))) true true (wrap64 (x8_2 + 1))))) else ((selvageref10_partial.f k2 ((rd_T29 l0 x8_2).f0) ((rd_T29 l0 x8_2).f1) ((rd_T29 l0 x8_2).f2) ((rd_T29 l0 x8_2).f3) ((rd_T29 l0 x8_2).f4) ((rd_T29 l0 x8_2).f5)).bind fun bt220 => (selvageref10_Order.l1 k2 l0 (wrap64 (t216 + ((rd_T29 l0 x8_2).f1))) (wrap64 (t217 + ((rd_T29 l0 x8_2).f3))) true bt220.2 (wrap64 (x8_2 + 1)))))) else (if x7_2 = true then (if ((rd_T29 l0 x8_2).f3) > 0 then (some 112) else ((selvageref10_partial.f k2 ((rd_T29 l0 x8_2).f0) ((rd_T29 l0 x8_2).f1) ((rd_T29 l0 x8_2).f2) ((rd_T29 l0 x8_2).f3) ((rd_T29 l0 x8_2).f4) ((rd_T29 l0 x8_2).f5)).bind fun bt222 => (selvageref10_Order.l1 k2 l0 (wrap64 (t216 + ((rd_T29 l0 x8_2).f1))) (wrap64 (t217 + ((rd_T29 l0 x8_2).f3))) bt222.1 true (wrap64 (x8_2 + 1))))) else ((selvageref10_partial.f k2 ((rd_T29 l0 x8_2).f0) ((rd_T29 l0 x8_2).f1) ((rd_T29 l0 x8_2).f2) ((rd_T29 l0 x8_2).f3) ((rd_T29 l0 x8_2).f4) ((rd_T29 l0 x8_2).f5)).bind fun bt224 => (selvageref10_Order.l1 k2 l0 (wrap64 (t216 + ((rd_T29 l0 x8_2).f1))) (wrap64 (t217 + ((rd_T29 l0 x8_2).f3))) bt224.1 bt224.2 (wrap64 (x8_2 + 1)))))) else (some 112)))) = some r := H
     have A11 := Aside0.mk A110
     clear A110
     by_cases c12 : t216 < x4_2
     ·rw [if_pos c12] at H
      have c12b0 : decide (t216 < x4_2) = true := decide_eq_true c12
      clear c12
      obtain rfl := Option.some.inj H
      have p214 : 0 ≤ (x8_2 : Int) := ofDec
      have q214 : x8_2 < (l0.length : Int) := ofDec
      obtain ⟨ad214, A214_5, c214_5, e214, hx214_0, hx214_1, hx214_2, hx214_3, hx214_4, hx214_5, hl214_5, hi214_5⟩ := at_T29 HR0.out x8_2 p214 q214
      cases e214
      replace hx214_0 := cUp HB.out hx214_0
      replace hx214_1 := cUp HB.out hx214_1
      replace hx214_2 := cUp HB.out hx214_2
      replace hx214_3 := cUp HB.out hx214_3
      replace hx214_4 := cUp HB.out hx214_4
      replace hx214_5 := cUp HB.out hx214_5
      have HR214_5 := Aside0.mk hi214_5
      have HC214_5 := Aside0.mk hl214_5
      clear hi214_5 hl214_5
      replace p214 := eq_true p214
      replace q214 := eq_true q214
      go_wp2_with (first | ((with_reducible refine gate_dst (N := 9) rfl ?_); refine boxEv (N := 9) #[.int .i64 0, .int .i64 0, .int .i64 0, .int .i64 0, .string (⟨#[]⟩ : ByteArray), .slice none 0 0] 29 ?_; intro gb215 hg w13 hbox hb; have n0_ := Aside0.mk (below_step belNow hb); have n1_ := Aside0.mk (hbox); have n2_ := Aside0.mk (bszNow (w := w) hg); have n3_ := Aside0.mk (bszNow (w := w) hg); clear HB; have HB := n0_; have BK215 := n1_; have GW215 := n2_; have GE215 := n3_; clear n0_ n1_ n2_ n3_; clear hb hbox hg; have hcz14_0 : w13.cell? ⟨gb215, 0, none⟩ = some (.int .i64 0) := (blk_cell BK215.out 0).trans rfl; have hcz14_1 : w13.cell? ⟨gb215, 1, none⟩ = some (.int .i64 0) := (blk_cell BK215.out 1).trans rfl; have hcz14_2 : w13.cell? ⟨gb215, 2, none⟩ = some (.int .i64 0) := (blk_cell BK215.out 2).trans rfl; have hcz14_3 : w13.cell? ⟨gb215, 3, none⟩ = some (.int .i64 0) := (blk_cell BK215.out 3).trans rfl; have hcz14_4 : w13.cell? ⟨gb215, 4, none⟩ = some (.string (⟨#[]⟩ : ByteArray)) := (blk_cell BK215.out 4).trans rfl; have hcz14_5 : w13.cell? ⟨gb215, 5, none⟩ = some (.slice none 0 0) := (blk_cell BK215.out 5).trans rfl; have hfz14_0 := blk_frozen BK215.out 0; have hfz14_1 := blk_frozen BK215.out 1; have hfz14_2 := blk_frozen BK215.out 2; have hfz14_3 := blk_frozen BK215.out 3; have hfz14_4 := blk_frozen BK215.out 4; have hfz14_5 := blk_frozen BK215.out 5) | ((with_reducible refine gate_callee (f := 47) rfl ?_); refine goesL_ (some 40) rfl rfl Tryz.func47 (by kernel_rfl) rfl #[.int .i64 ((rd_T29 l0 x8_2).f0), .int .i64 ((rd_T29 l0 x8_2).f1)] rfl argsOk ?_; (with_reducible refine (selvageref10_Place.calls ((rd_T29 l0 x8_2).f0) ((rd_T29 l0 x8_2).f1) t216 _ A10.out).mono ?_); rintro e w' ⟨rfl, ⟨nd, rfl⟩⟩; refine ⟨_, rfl, ?_⟩) | ((with_reducible refine gate_callee (f := 47) rfl ?_); refine goesL_ (some 45) rfl rfl Tryz.func47 (by kernel_rfl) rfl #[.int .i64 ((rd_T29 l0 x8_2).f2), .int .i64 ((rd_T29 l0 x8_2).f3)] rfl argsOk ?_; (with_reducible refine (selvageref10_Place.calls ((rd_T29 l0 x8_2).f2) ((rd_T29 l0 x8_2).f3) t217 _ A11.out).mono ?_); rintro e w' ⟨rfl, ⟨nd, rfl⟩⟩; refine ⟨_, rfl, ?_⟩))
      go_ret
      exact ⟨eqEnd, belPut⟩
     rw [if_neg c12] at H
     have c12b0 : decide (t216 < x4_2) = false := decide_eq_false c12
     clear c12
     by_cases c15 : t217 < x5_2
     ·rw [if_pos c15] at H
      have c15b0 : decide (t217 < x5_2) = true := decide_eq_true c15
      clear c15
      obtain rfl := Option.some.inj H
      have p214 : 0 ≤ (x8_2 : Int) := ofDec
      have q214 : x8_2 < (l0.length : Int) := ofDec
      obtain ⟨ad214, A214_5, c214_5, e214, hx214_0, hx214_1, hx214_2, hx214_3, hx214_4, hx214_5, hl214_5, hi214_5⟩ := at_T29 HR0.out x8_2 p214 q214
      cases e214
      replace hx214_0 := cUp HB.out hx214_0
      replace hx214_1 := cUp HB.out hx214_1
      replace hx214_2 := cUp HB.out hx214_2
      replace hx214_3 := cUp HB.out hx214_3
      replace hx214_4 := cUp HB.out hx214_4
      replace hx214_5 := cUp HB.out hx214_5
      have HR214_5 := Aside0.mk hi214_5
      have HC214_5 := Aside0.mk hl214_5
      clear hi214_5 hl214_5
      replace p214 := eq_true p214
      replace q214 := eq_true q214
      go_wp2_with (first | ((with_reducible refine gate_dst (N := 9) rfl ?_); refine boxEv (N := 9) #[.int .i64 0, .int .i64 0, .int .i64 0, .int .i64 0, .string (⟨#[]⟩ : ByteArray), .slice none 0 0] 29 ?_; intro gb215 hg w16 hbox hb; have n0_ := Aside0.mk (below_step belNow hb); have n1_ := Aside0.mk (hbox); have n2_ := Aside0.mk (bszNow (w := w) hg); have n3_ := Aside0.mk (bszNow (w := w) hg); clear HB; have HB := n0_; have BK215 := n1_; have GW215 := n2_; have GE215 := n3_; clear n0_ n1_ n2_ n3_; clear hb hbox hg; have hcz17_0 : w16.cell? ⟨gb215, 0, none⟩ = some (.int .i64 0) := (blk_cell BK215.out 0).trans rfl; have hcz17_1 : w16.cell? ⟨gb215, 1, none⟩ = some (.int .i64 0) := (blk_cell BK215.out 1).trans rfl; have hcz17_2 : w16.cell? ⟨gb215, 2, none⟩ = some (.int .i64 0) := (blk_cell BK215.out 2).trans rfl; have hcz17_3 : w16.cell? ⟨gb215, 3, none⟩ = some (.int .i64 0) := (blk_cell BK215.out 3).trans rfl; have hcz17_4 : w16.cell? ⟨gb215, 4, none⟩ = some (.string (⟨#[]⟩ : ByteArray)) := (blk_cell BK215.out 4).trans rfl; have hcz17_5 : w16.cell? ⟨gb215, 5, none⟩ = some (.slice none 0 0) := (blk_cell BK215.out 5).trans rfl; have hfz17_0 := blk_frozen BK215.out 0; have hfz17_1 := blk_frozen BK215.out 1; have hfz17_2 := blk_frozen BK215.out 2; have hfz17_3 := blk_frozen BK215.out 3; have hfz17_4 := blk_frozen BK215.out 4; have hfz17_5 := blk_frozen BK215.out 5) | ((with_reducible refine gate_callee (f := 47) rfl ?_); refine goesL_ (some 40) rfl rfl Tryz.func47 (by kernel_rfl) rfl #[.int .i64 ((rd_T29 l0 x8_2).f0), .int .i64 ((rd_T29 l0 x8_2).f1)] rfl argsOk ?_; (with_reducible refine (selvageref10_Place.calls ((rd_T29 l0 x8_2).f0) ((rd_T29 l0 x8_2).f1) t216 _ A10.out).mono ?_); rintro e w' ⟨rfl, ⟨nd, rfl⟩⟩; refine ⟨_, rfl, ?_⟩) | ((with_reducible refine gate_callee (f := 47) rfl ?_); refine goesL_ (some 45) rfl rfl Tryz.func47 (by kernel_rfl) rfl #[.int .i64 ((rd_T29 l0 x8_2).f2), .int .i64 ((rd_T29 l0 x8_2).f3)] rfl argsOk ?_; (with_reducible refine (selvageref10_Place.calls ((rd_T29 l0 x8_2).f2) ((rd_T29 l0 x8_2).f3) t217 _ A11.out).mono ?_); rintro e w' ⟨rfl, ⟨nd, rfl⟩⟩; refine ⟨_, rfl, ?_⟩))
      go_ret
      exact ⟨eqEnd, belPut⟩
     rw [if_neg c15] at H
     have c15b0 : decide (t217 < x5_2) = false := decide_eq_false c15
     clear c15
     by_cases c18 : (wrap64 (t216 - t217)) = (wrap64 (x4_2 - x5_2))
     rotate_left
     ·rw [if_neg c18] at H
      have c18b0 : ((wrap64 (t216 - t217)) == (wrap64 (x4_2 - x5_2))) = false := beq_eq_false_iff_ne.mpr c18
      have c18b1 : ((wrap64 (t216 - t217)) != (wrap64 (x4_2 - x5_2))) = true := bne_iff_ne.mpr c18
      obtain rfl := Option.some.inj H
      have p214 : 0 ≤ (x8_2 : Int) := ofDec
      have q214 : x8_2 < (l0.length : Int) := ofDec
      obtain ⟨ad214, A214_5, c214_5, e214, hx214_0, hx214_1, hx214_2, hx214_3, hx214_4, hx214_5, hl214_5, hi214_5⟩ := at_T29 HR0.out x8_2 p214 q214
      cases e214
      replace hx214_0 := cUp HB.out hx214_0
      replace hx214_1 := cUp HB.out hx214_1
      replace hx214_2 := cUp HB.out hx214_2
      replace hx214_3 := cUp HB.out hx214_3
      replace hx214_4 := cUp HB.out hx214_4
      replace hx214_5 := cUp HB.out hx214_5
      have HR214_5 := Aside0.mk hi214_5
      have HC214_5 := Aside0.mk hl214_5
      clear hi214_5 hl214_5
      replace p214 := eq_true p214
      replace q214 := eq_true q214
      go_wp2_with (first | ((with_reducible refine gate_dst (N := 9) rfl ?_); refine boxEv (N := 9) #[.int .i64 0, .int .i64 0, .int .i64 0, .int .i64 0, .string (⟨#[]⟩ : ByteArray), .slice none 0 0] 29 ?_; intro gb215 hg w47 hbox hb; have n0_ := Aside0.mk (below_step belNow hb); have n1_ := Aside0.mk (hbox); have n2_ := Aside0.mk (bszNow (w := w) hg); have n3_ := Aside0.mk (bszNow (w := w) hg); clear HB; have HB := n0_; have BK215 := n1_; have GW215 := n2_; have GE215 := n3_; clear n0_ n1_ n2_ n3_; clear hb hbox hg; have hcz48_0 : w47.cell? ⟨gb215, 0, none⟩ = some (.int .i64 0) := (blk_cell BK215.out 0).trans rfl; have hcz48_1 : w47.cell? ⟨gb215, 1, none⟩ = some (.int .i64 0) := (blk_cell BK215.out 1).trans rfl; have hcz48_2 : w47.cell? ⟨gb215, 2, none⟩ = some (.int .i64 0) := (blk_cell BK215.out 2).trans rfl; have hcz48_3 : w47.cell? ⟨gb215, 3, none⟩ = some (.int .i64 0) := (blk_cell BK215.out 3).trans rfl; have hcz48_4 : w47.cell? ⟨gb215, 4, none⟩ = some (.string (⟨#[]⟩ : ByteArray)) := (blk_cell BK215.out 4).trans rfl; have hcz48_5 : w47.cell? ⟨gb215, 5, none⟩ = some (.slice none 0 0) := (blk_cell BK215.out 5).trans rfl; have hfz48_0 := blk_frozen BK215.out 0; have hfz48_1 := blk_frozen BK215.out 1; have hfz48_2 := blk_frozen BK215.out 2; have hfz48_3 := blk_frozen BK215.out 3; have hfz48_4 := blk_frozen BK215.out 4; have hfz48_5 := blk_frozen BK215.out 5) | ((with_reducible refine gate_callee (f := 47) rfl ?_); refine goesL_ (some 40) rfl rfl Tryz.func47 (by kernel_rfl) rfl #[.int .i64 ((rd_T29 l0 x8_2).f0), .int .i64 ((rd_T29 l0 x8_2).f1)] rfl argsOk ?_; (with_reducible refine (selvageref10_Place.calls ((rd_T29 l0 x8_2).f0) ((rd_T29 l0 x8_2).f1) t216 _ A10.out).mono ?_); rintro e w' ⟨rfl, ⟨nd, rfl⟩⟩; refine ⟨_, rfl, ?_⟩) | ((with_reducible refine gate_callee (f := 47) rfl ?_); refine goesL_ (some 45) rfl rfl Tryz.func47 (by kernel_rfl) rfl #[.int .i64 ((rd_T29 l0 x8_2).f2), .int .i64 ((rd_T29 l0 x8_2).f3)] rfl argsOk ?_; (with_reducible refine (selvageref10_Place.calls ((rd_T29 l0 x8_2).f2) ((rd_T29 l0 x8_2).f3) t217 _ A11.out).mono ?_); rintro e w' ⟨rfl, ⟨nd, rfl⟩⟩; refine ⟨_, rfl, ?_⟩))
      go_ret
      exact ⟨eqEnd, belPut⟩
     rw [if_pos c18] at H
     have c18b0 : ((wrap64 (t216 - t217)) == (wrap64 (x4_2 - x5_2))) = true := beq_iff_eq.mpr c18
     have c18b1 : ((wrap64 (t216 - t217)) != (wrap64 (x4_2 - x5_2))) = false := bne_eq_false_iff_eq.mpr c18
     clear c18
     by_cases c19 : x6_2 = true
     rotate_left
     ·replace c19 := Bool.eq_false_iff.mpr c19
      subst c19
      have H1 : (if x7_2 = true then (if ((rd_T29 l0 x8_2).f3) > 0 then (some 112) else ((selvageref10_partial.f k2 ((rd_T29 l0 x8_2).f0) ((rd_T29 l0 x8_2).f1) ((rd_T29 l0 x8_2).f2) ((rd_T29 l0 x8_2).f3) ((rd_T29 l0 x8_2).f4) ((rd_T29 l0 x8_2).f5)).bind fun bt222 => (selvageref10_Order.l1 k2 l0 (wrap64 (t216 + ((rd_T29 l0 x8_2).f1))) (wrap64 (t217 + ((rd_T29 l0 x8_2).f3))) bt222.1 true (wrap64 (x8_2 + 1))))) else ((selvageref10_partial.f k2 ((rd_T29 l0 x8_2).f0) ((rd_T29 l0 x8_2).f1) ((rd_T29 l0 x8_2).f2) ((rd_T29 l0 x8_2).f3) ((rd_T29 l0 x8_2).f4) ((rd_T29 l0 x8_2).f5)).bind fun bt224 => (selvageref10_Order.l1 k2 l0 (wrap64 (t216 + ((rd_T29 l0 x8_2).f1))) (wrap64 (t217 + ((rd_T29 l0 x8_2).f3))) bt224.1 bt224.2 (wrap64 (x8_2 + 1))))) = some r := by rw [if_neg (show ¬ (false = true) by decide)] at H; exact H
      clear H
      have H := H1
      clear H1
      by_cases c35 : x7_2 = true
      rotate_left
      ·replace c35 := Bool.eq_false_iff.mpr c35
       subst c35
       have H1 : ((selvageref10_partial.f k2 ((rd_T29 l0 x8_2).f0) ((rd_T29 l0 x8_2).f1) ((rd_T29 l0 x8_2).f2) ((rd_T29 l0 x8_2).f3) ((rd_T29 l0 x8_2).f4) ((rd_T29 l0 x8_2).f5)).bind fun bt224 => (selvageref10_Order.l1 k2 l0 (wrap64 (t216 + ((rd_T29 l0 x8_2).f1))) (wrap64 (t217 + ((rd_T29 l0 x8_2).f3))) bt224.1 bt224.2 (wrap64 (x8_2 + 1)))) = some r := by rw [if_neg (show ¬ (false = true) by decide)] at H; exact H
       clear H
       have H := H1
       clear H1
       replace H := Option.bind_eq_some_iff.mp H
       obtain ⟨⟨t224, t225⟩, A430, H⟩ := H
       replace H : (selvageref10_Order.l1 k2 l0 (wrap64 (t216 + ((rd_T29 l0 x8_2).f1))) (wrap64 (t217 + ((rd_T29 l0 x8_2).f3))) t224 t225 (wrap64 (x8_2 + 1))) = some r := H
       have A43 := Aside0.mk A430
       clear A430
       have H' := Aside0.mk H
       clear H
       have p214 : 0 ≤ (x8_2 : Int) := ofDec
       have q214 : x8_2 < (l0.length : Int) := ofDec
       obtain ⟨ad214, A214_5, c214_5, e214, hx214_0, hx214_1, hx214_2, hx214_3, hx214_4, hx214_5, hl214_5, hi214_5⟩ := at_T29 HR0.out x8_2 p214 q214
       cases e214
       replace hx214_0 := cUp HB.out hx214_0
       replace hx214_1 := cUp HB.out hx214_1
       replace hx214_2 := cUp HB.out hx214_2
       replace hx214_3 := cUp HB.out hx214_3
       replace hx214_4 := cUp HB.out hx214_4
       replace hx214_5 := cUp HB.out hx214_5
       have HR214_5 := Aside0.mk hi214_5
       have HC214_5 := Aside0.mk hl214_5
       clear hi214_5 hl214_5
       replace p214 := eq_true p214
       replace q214 := eq_true q214
       go_wp2_with (first | ((with_reducible refine gate_dst (N := 9) rfl ?_); refine boxEv (N := 9) #[.int .i64 0, .int .i64 0, .int .i64 0, .int .i64 0, .string (⟨#[]⟩ : ByteArray), .slice none 0 0] 29 ?_; intro gb215 hg w44 hbox hb; have n0_ := Aside0.mk (below_step belNow hb); have n1_ := Aside0.mk (hbox); have n2_ := Aside0.mk (bszNow (w := w) hg); have n3_ := Aside0.mk (bszNow (w := w) hg); clear HB; have HB := n0_; have BK215 := n1_; have GW215 := n2_; have GE215 := n3_; clear n0_ n1_ n2_ n3_; clear hb hbox hg; have hcz45_0 : w44.cell? ⟨gb215, 0, none⟩ = some (.int .i64 0) := (blk_cell BK215.out 0).trans rfl; have hcz45_1 : w44.cell? ⟨gb215, 1, none⟩ = some (.int .i64 0) := (blk_cell BK215.out 1).trans rfl; have hcz45_2 : w44.cell? ⟨gb215, 2, none⟩ = some (.int .i64 0) := (blk_cell BK215.out 2).trans rfl; have hcz45_3 : w44.cell? ⟨gb215, 3, none⟩ = some (.int .i64 0) := (blk_cell BK215.out 3).trans rfl; have hcz45_4 : w44.cell? ⟨gb215, 4, none⟩ = some (.string (⟨#[]⟩ : ByteArray)) := (blk_cell BK215.out 4).trans rfl; have hcz45_5 : w44.cell? ⟨gb215, 5, none⟩ = some (.slice none 0 0) := (blk_cell BK215.out 5).trans rfl; have hfz45_0 := blk_frozen BK215.out 0; have hfz45_1 := blk_frozen BK215.out 1; have hfz45_2 := blk_frozen BK215.out 2; have hfz45_3 := blk_frozen BK215.out 3; have hfz45_4 := blk_frozen BK215.out 4; have hfz45_5 := blk_frozen BK215.out 5) | ((with_reducible refine gate_callee (f := 47) rfl ?_); refine goesL_ (some 40) rfl rfl Tryz.func47 (by kernel_rfl) rfl #[.int .i64 ((rd_T29 l0 x8_2).f0), .int .i64 ((rd_T29 l0 x8_2).f1)] rfl argsOk ?_; (with_reducible refine (selvageref10_Place.calls ((rd_T29 l0 x8_2).f0) ((rd_T29 l0 x8_2).f1) t216 _ A10.out).mono ?_); rintro e w' ⟨rfl, ⟨nd, rfl⟩⟩; refine ⟨_, rfl, ?_⟩) | ((with_reducible refine gate_callee (f := 47) rfl ?_); refine goesL_ (some 45) rfl rfl Tryz.func47 (by kernel_rfl) rfl #[.int .i64 ((rd_T29 l0 x8_2).f2), .int .i64 ((rd_T29 l0 x8_2).f3)] rfl argsOk ?_; (with_reducible refine (selvageref10_Place.calls ((rd_T29 l0 x8_2).f2) ((rd_T29 l0 x8_2).f3) t217 _ A11.out).mono ?_); rintro e w' ⟨rfl, ⟨nd, rfl⟩⟩; refine ⟨_, rfl, ?_⟩) | ((with_reducible refine gate_callee (f := 48) rfl ?_); refine goesL_ (some 89) rfl rfl Tryz.func48 (by kernel_rfl) rfl #[.agg #[.int .i64 ((rd_T29 l0 x8_2).f0), .int .i64 ((rd_T29 l0 x8_2).f1), .int .i64 ((rd_T29 l0 x8_2).f2), .int .i64 ((rd_T29 l0 x8_2).f3), .string ((rd_T29 l0 x8_2).f4), .slice A214_5 ((rd_T29 l0 x8_2).f5).length c214_5]] rfl argsOk ?_; (with_reducible refine (selvageref10_partial.calls k2 ((rd_T29 l0 x8_2).f0) ((rd_T29 l0 x8_2).f1) ((rd_T29 l0 x8_2).f2) ((rd_T29 l0 x8_2).f3) ((rd_T29 l0 x8_2).f4) _ _ ((rd_T29 l0 x8_2).f5) t224 t225 _ ?side1 ?side2 A43.out).mono ?_); (case side1 => exact Kd.C_below HR214_5.out (belPut)); (case side2 => exact HC214_5.out); rintro e w46 ⟨rfl, hb⟩; refine ⟨_, rfl, ?_⟩; have n0_ := Aside0.mk (blk_below (g := gb215) (o := .cells #[.int .i64 ((rd_T29 l0 x8_2).f0), .int .i64 ((rd_T29 l0 x8_2).f1), .int .i64 ((rd_T29 l0 x8_2).f2), .int .i64 ((rd_T29 l0 x8_2).f3), .string ((rd_T29 l0 x8_2).f4), .slice A214_5 ((rd_T29 l0 x8_2).f5).length c214_5] 29 (0, 0)) (by refine bkUp ?_; refine blk_put (cs := #[.int .i64 ((rd_T29 l0 x8_2).f0), .int .i64 ((rd_T29 l0 x8_2).f1), .int .i64 ((rd_T29 l0 x8_2).f2), .int .i64 ((rd_T29 l0 x8_2).f3), .string ((rd_T29 l0 x8_2).f4), .slice none 0 0]) ?_ 5 _ rfl; refine bkUp ?_; refine blk_put (cs := #[.int .i64 ((rd_T29 l0 x8_2).f0), .int .i64 ((rd_T29 l0 x8_2).f1), .int .i64 ((rd_T29 l0 x8_2).f2), .int .i64 ((rd_T29 l0 x8_2).f3), .string (⟨#[]⟩ : ByteArray), .slice none 0 0]) ?_ 4 _ rfl; refine bkUp ?_; refine blk_put (cs := #[.int .i64 ((rd_T29 l0 x8_2).f0), .int .i64 ((rd_T29 l0 x8_2).f1), .int .i64 ((rd_T29 l0 x8_2).f2), .int .i64 0, .string (⟨#[]⟩ : ByteArray), .slice none 0 0]) ?_ 3 _ rfl; refine bkUp ?_; refine blk_put (cs := #[.int .i64 ((rd_T29 l0 x8_2).f0), .int .i64 ((rd_T29 l0 x8_2).f1), .int .i64 0, .int .i64 0, .string (⟨#[]⟩ : ByteArray), .slice none 0 0]) ?_ 2 _ rfl; refine bkUp ?_; refine blk_put (cs := #[.int .i64 ((rd_T29 l0 x8_2).f0), .int .i64 0, .int .i64 0, .int .i64 0, .string (⟨#[]⟩ : ByteArray), .slice none 0 0]) ?_ 1 _ rfl; refine bkUp ?_; refine blk_put (cs := #[.int .i64 0, .int .i64 0, .int .i64 0, .int .i64 0, .string (⟨#[]⟩ : ByteArray), .slice none 0 0]) ?_ 0 _ rfl; exact bkUp BK215.out) hb); have n1_ := Aside0.mk (below_step (belPut) hb); clear BK215 HB; have BK215 := n0_; have HB := n1_; clear n0_ n1_; (try clear hb); (try clear hb2); (try clear hk); (try clear hi)))
       go_roundg k2
       case measure => have := HK1.out; have := HK2.out; omega
       case rel => exact ⟨(wrap64 (t216 + ((rd_T29 l0 x8_2).f1))), (wrap64 (t217 + ((rd_T29 l0 x8_2).f3))), (t224), (t225), (wrap64 (x8_2 + 1)), eqNow, eqNow, eqNow, eqNow, eqNow, H', ⟨by have := HK1.out; have := HK2.out; omega⟩, ⟨belPut⟩⟩
      subst c35
      have H1 : (if ((rd_T29 l0 x8_2).f3) > 0 then (some 112) else ((selvageref10_partial.f k2 ((rd_T29 l0 x8_2).f0) ((rd_T29 l0 x8_2).f1) ((rd_T29 l0 x8_2).f2) ((rd_T29 l0 x8_2).f3) ((rd_T29 l0 x8_2).f4) ((rd_T29 l0 x8_2).f5)).bind fun bt222 => (selvageref10_Order.l1 k2 l0 (wrap64 (t216 + ((rd_T29 l0 x8_2).f1))) (wrap64 (t217 + ((rd_T29 l0 x8_2).f3))) bt222.1 true (wrap64 (x8_2 + 1))))) = some r := by rw [if_pos rfl] at H; exact H
      clear H
      have H := H1
      clear H1
      by_cases c36 : ((rd_T29 l0 x8_2).f3) > 0
      ·rw [if_pos c36] at H
       have c36b0 : decide (0 < ((rd_T29 l0 x8_2).f3)) = true := decide_eq_true c36
       clear c36
       obtain rfl := Option.some.inj H
       have p214 : 0 ≤ (x8_2 : Int) := ofDec
       have q214 : x8_2 < (l0.length : Int) := ofDec
       obtain ⟨ad214, A214_5, c214_5, e214, hx214_0, hx214_1, hx214_2, hx214_3, hx214_4, hx214_5, hl214_5, hi214_5⟩ := at_T29 HR0.out x8_2 p214 q214
       cases e214
       replace hx214_0 := cUp HB.out hx214_0
       replace hx214_1 := cUp HB.out hx214_1
       replace hx214_2 := cUp HB.out hx214_2
       replace hx214_3 := cUp HB.out hx214_3
       replace hx214_4 := cUp HB.out hx214_4
       replace hx214_5 := cUp HB.out hx214_5
       have HR214_5 := Aside0.mk hi214_5
       have HC214_5 := Aside0.mk hl214_5
       clear hi214_5 hl214_5
       replace p214 := eq_true p214
       replace q214 := eq_true q214
       go_wp2_with (first | ((with_reducible refine gate_dst (N := 9) rfl ?_); refine boxEv (N := 9) #[.int .i64 0, .int .i64 0, .int .i64 0, .int .i64 0, .string (⟨#[]⟩ : ByteArray), .slice none 0 0] 29 ?_; intro gb215 hg w37 hbox hb; have n0_ := Aside0.mk (below_step belNow hb); have n1_ := Aside0.mk (hbox); have n2_ := Aside0.mk (bszNow (w := w) hg); have n3_ := Aside0.mk (bszNow (w := w) hg); clear HB; have HB := n0_; have BK215 := n1_; have GW215 := n2_; have GE215 := n3_; clear n0_ n1_ n2_ n3_; clear hb hbox hg; have hcz38_0 : w37.cell? ⟨gb215, 0, none⟩ = some (.int .i64 0) := (blk_cell BK215.out 0).trans rfl; have hcz38_1 : w37.cell? ⟨gb215, 1, none⟩ = some (.int .i64 0) := (blk_cell BK215.out 1).trans rfl; have hcz38_2 : w37.cell? ⟨gb215, 2, none⟩ = some (.int .i64 0) := (blk_cell BK215.out 2).trans rfl; have hcz38_3 : w37.cell? ⟨gb215, 3, none⟩ = some (.int .i64 0) := (blk_cell BK215.out 3).trans rfl; have hcz38_4 : w37.cell? ⟨gb215, 4, none⟩ = some (.string (⟨#[]⟩ : ByteArray)) := (blk_cell BK215.out 4).trans rfl; have hcz38_5 : w37.cell? ⟨gb215, 5, none⟩ = some (.slice none 0 0) := (blk_cell BK215.out 5).trans rfl; have hfz38_0 := blk_frozen BK215.out 0; have hfz38_1 := blk_frozen BK215.out 1; have hfz38_2 := blk_frozen BK215.out 2; have hfz38_3 := blk_frozen BK215.out 3; have hfz38_4 := blk_frozen BK215.out 4; have hfz38_5 := blk_frozen BK215.out 5) | ((with_reducible refine gate_callee (f := 47) rfl ?_); refine goesL_ (some 40) rfl rfl Tryz.func47 (by kernel_rfl) rfl #[.int .i64 ((rd_T29 l0 x8_2).f0), .int .i64 ((rd_T29 l0 x8_2).f1)] rfl argsOk ?_; (with_reducible refine (selvageref10_Place.calls ((rd_T29 l0 x8_2).f0) ((rd_T29 l0 x8_2).f1) t216 _ A10.out).mono ?_); rintro e w' ⟨rfl, ⟨nd, rfl⟩⟩; refine ⟨_, rfl, ?_⟩) | ((with_reducible refine gate_callee (f := 47) rfl ?_); refine goesL_ (some 45) rfl rfl Tryz.func47 (by kernel_rfl) rfl #[.int .i64 ((rd_T29 l0 x8_2).f2), .int .i64 ((rd_T29 l0 x8_2).f3)] rfl argsOk ?_; (with_reducible refine (selvageref10_Place.calls ((rd_T29 l0 x8_2).f2) ((rd_T29 l0 x8_2).f3) t217 _ A11.out).mono ?_); rintro e w' ⟨rfl, ⟨nd, rfl⟩⟩; refine ⟨_, rfl, ?_⟩))
       go_ret
       exact ⟨eqEnd, belPut⟩
      rw [if_neg c36] at H
      have c36b0 : decide (0 < ((rd_T29 l0 x8_2).f3)) = false := decide_eq_false c36
      clear c36
      replace H := Option.bind_eq_some_iff.mp H
      obtain ⟨⟨t222, t223⟩, A390, H⟩ := H
      replace H : (selvageref10_Order.l1 k2 l0 (wrap64 (t216 + ((rd_T29 l0 x8_2).f1))) (wrap64 (t217 + ((rd_T29 l0 x8_2).f3))) t222 true (wrap64 (x8_2 + 1))) = some r := H
      have A39 := Aside0.mk A390
      clear A390
      have H' := Aside0.mk H
      clear H
      have p214 : 0 ≤ (x8_2 : Int) := ofDec
      have q214 : x8_2 < (l0.length : Int) := ofDec
      obtain ⟨ad214, A214_5, c214_5, e214, hx214_0, hx214_1, hx214_2, hx214_3, hx214_4, hx214_5, hl214_5, hi214_5⟩ := at_T29 HR0.out x8_2 p214 q214
      cases e214
      replace hx214_0 := cUp HB.out hx214_0
      replace hx214_1 := cUp HB.out hx214_1
      replace hx214_2 := cUp HB.out hx214_2
      replace hx214_3 := cUp HB.out hx214_3
      replace hx214_4 := cUp HB.out hx214_4
      replace hx214_5 := cUp HB.out hx214_5
      have HR214_5 := Aside0.mk hi214_5
      have HC214_5 := Aside0.mk hl214_5
      clear hi214_5 hl214_5
      replace p214 := eq_true p214
      replace q214 := eq_true q214
      go_wp2_with (first | ((with_reducible refine gate_dst (N := 9) rfl ?_); refine boxEv (N := 9) #[.int .i64 0, .int .i64 0, .int .i64 0, .int .i64 0, .string (⟨#[]⟩ : ByteArray), .slice none 0 0] 29 ?_; intro gb215 hg w40 hbox hb; have n0_ := Aside0.mk (below_step belNow hb); have n1_ := Aside0.mk (hbox); have n2_ := Aside0.mk (bszNow (w := w) hg); have n3_ := Aside0.mk (bszNow (w := w) hg); clear HB; have HB := n0_; have BK215 := n1_; have GW215 := n2_; have GE215 := n3_; clear n0_ n1_ n2_ n3_; clear hb hbox hg; have hcz41_0 : w40.cell? ⟨gb215, 0, none⟩ = some (.int .i64 0) := (blk_cell BK215.out 0).trans rfl; have hcz41_1 : w40.cell? ⟨gb215, 1, none⟩ = some (.int .i64 0) := (blk_cell BK215.out 1).trans rfl; have hcz41_2 : w40.cell? ⟨gb215, 2, none⟩ = some (.int .i64 0) := (blk_cell BK215.out 2).trans rfl; have hcz41_3 : w40.cell? ⟨gb215, 3, none⟩ = some (.int .i64 0) := (blk_cell BK215.out 3).trans rfl; have hcz41_4 : w40.cell? ⟨gb215, 4, none⟩ = some (.string (⟨#[]⟩ : ByteArray)) := (blk_cell BK215.out 4).trans rfl; have hcz41_5 : w40.cell? ⟨gb215, 5, none⟩ = some (.slice none 0 0) := (blk_cell BK215.out 5).trans rfl; have hfz41_0 := blk_frozen BK215.out 0; have hfz41_1 := blk_frozen BK215.out 1; have hfz41_2 := blk_frozen BK215.out 2; have hfz41_3 := blk_frozen BK215.out 3; have hfz41_4 := blk_frozen BK215.out 4; have hfz41_5 := blk_frozen BK215.out 5) | ((with_reducible refine gate_callee (f := 47) rfl ?_); refine goesL_ (some 40) rfl rfl Tryz.func47 (by kernel_rfl) rfl #[.int .i64 ((rd_T29 l0 x8_2).f0), .int .i64 ((rd_T29 l0 x8_2).f1)] rfl argsOk ?_; (with_reducible refine (selvageref10_Place.calls ((rd_T29 l0 x8_2).f0) ((rd_T29 l0 x8_2).f1) t216 _ A10.out).mono ?_); rintro e w' ⟨rfl, ⟨nd, rfl⟩⟩; refine ⟨_, rfl, ?_⟩) | ((with_reducible refine gate_callee (f := 47) rfl ?_); refine goesL_ (some 45) rfl rfl Tryz.func47 (by kernel_rfl) rfl #[.int .i64 ((rd_T29 l0 x8_2).f2), .int .i64 ((rd_T29 l0 x8_2).f3)] rfl argsOk ?_; (with_reducible refine (selvageref10_Place.calls ((rd_T29 l0 x8_2).f2) ((rd_T29 l0 x8_2).f3) t217 _ A11.out).mono ?_); rintro e w' ⟨rfl, ⟨nd, rfl⟩⟩; refine ⟨_, rfl, ?_⟩) | ((with_reducible refine gate_callee (f := 48) rfl ?_); refine goesL_ (some 89) rfl rfl Tryz.func48 (by kernel_rfl) rfl #[.agg #[.int .i64 ((rd_T29 l0 x8_2).f0), .int .i64 ((rd_T29 l0 x8_2).f1), .int .i64 ((rd_T29 l0 x8_2).f2), .int .i64 ((rd_T29 l0 x8_2).f3), .string ((rd_T29 l0 x8_2).f4), .slice A214_5 ((rd_T29 l0 x8_2).f5).length c214_5]] rfl argsOk ?_; (with_reducible refine (selvageref10_partial.calls k2 ((rd_T29 l0 x8_2).f0) ((rd_T29 l0 x8_2).f1) ((rd_T29 l0 x8_2).f2) ((rd_T29 l0 x8_2).f3) ((rd_T29 l0 x8_2).f4) _ _ ((rd_T29 l0 x8_2).f5) t222 t223 _ ?side1 ?side2 A39.out).mono ?_); (case side1 => exact Kd.C_below HR214_5.out (belPut)); (case side2 => exact HC214_5.out); rintro e w42 ⟨rfl, hb⟩; refine ⟨_, rfl, ?_⟩; have n0_ := Aside0.mk (blk_below (g := gb215) (o := .cells #[.int .i64 ((rd_T29 l0 x8_2).f0), .int .i64 ((rd_T29 l0 x8_2).f1), .int .i64 ((rd_T29 l0 x8_2).f2), .int .i64 ((rd_T29 l0 x8_2).f3), .string ((rd_T29 l0 x8_2).f4), .slice A214_5 ((rd_T29 l0 x8_2).f5).length c214_5] 29 (0, 0)) (by refine bkUp ?_; refine blk_put (cs := #[.int .i64 ((rd_T29 l0 x8_2).f0), .int .i64 ((rd_T29 l0 x8_2).f1), .int .i64 ((rd_T29 l0 x8_2).f2), .int .i64 ((rd_T29 l0 x8_2).f3), .string ((rd_T29 l0 x8_2).f4), .slice none 0 0]) ?_ 5 _ rfl; refine bkUp ?_; refine blk_put (cs := #[.int .i64 ((rd_T29 l0 x8_2).f0), .int .i64 ((rd_T29 l0 x8_2).f1), .int .i64 ((rd_T29 l0 x8_2).f2), .int .i64 ((rd_T29 l0 x8_2).f3), .string (⟨#[]⟩ : ByteArray), .slice none 0 0]) ?_ 4 _ rfl; refine bkUp ?_; refine blk_put (cs := #[.int .i64 ((rd_T29 l0 x8_2).f0), .int .i64 ((rd_T29 l0 x8_2).f1), .int .i64 ((rd_T29 l0 x8_2).f2), .int .i64 0, .string (⟨#[]⟩ : ByteArray), .slice none 0 0]) ?_ 3 _ rfl; refine bkUp ?_; refine blk_put (cs := #[.int .i64 ((rd_T29 l0 x8_2).f0), .int .i64 ((rd_T29 l0 x8_2).f1), .int .i64 0, .int .i64 0, .string (⟨#[]⟩ : ByteArray), .slice none 0 0]) ?_ 2 _ rfl; refine bkUp ?_; refine blk_put (cs := #[.int .i64 ((rd_T29 l0 x8_2).f0), .int .i64 0, .int .i64 0, .int .i64 0, .string (⟨#[]⟩ : ByteArray), .slice none 0 0]) ?_ 1 _ rfl; refine bkUp ?_; refine blk_put (cs := #[.int .i64 0, .int .i64 0, .int .i64 0, .int .i64 0, .string (⟨#[]⟩ : ByteArray), .slice none 0 0]) ?_ 0 _ rfl; exact bkUp BK215.out) hb); have n1_ := Aside0.mk (below_step (belPut) hb); clear BK215 HB; have BK215 := n0_; have HB := n1_; clear n0_ n1_; (try clear hb); (try clear hb2); (try clear hk); (try clear hi)))
      go_roundg k2
      case measure => have := HK1.out; have := HK2.out; omega
      case rel => exact ⟨(wrap64 (t216 + ((rd_T29 l0 x8_2).f1))), (wrap64 (t217 + ((rd_T29 l0 x8_2).f3))), (t222), (true), (wrap64 (x8_2 + 1)), eqNow, eqNow, eqNow, eqNow, eqNow, H', ⟨by have := HK1.out; have := HK2.out; omega⟩, ⟨belPut⟩⟩
     subst c19
     have H1 : (if ((rd_T29 l0 x8_2).f1) > 0 then (some 112) else (if x7_2 = true then (if ((rd_T29 l0 x8_2).f3) > 0 then (some 112) else ((selvageref10_partial.f k2 ((rd_T29 l0 x8_2).f0) ((rd_T29 l0 x8_2).f1) ((rd_T29 l0 x8_2).f2) ((rd_T29 l0 x8_2).f3) ((rd_T29 l0 x8_2).f4) ((rd_T29 l0 x8_2).f5)).bind fun bt218 => (selvageref10_Order.l1 k2 l0 (wrap64 (t216 + ((rd_T29 l0 x8_2).f1))) (wrap64 (t217 + ((rd_T29 l0 x8_2).f3))) true true (wrap64 (x8_2 + 1))))) else ((selvageref10_partial.f k2 ((rd_T29 l0 x8_2).f0) ((rd_T29 l0 x8_2).f1) ((rd_T29 l0 x8_2).f2) ((rd_T29 l0 x8_2).f3) ((rd_T29 l0 x8_2).f4) ((rd_T29 l0 x8_2).f5)).bind fun bt220 => (selvageref10_Order.l1 k2 l0 (wrap64 (t216 + ((rd_T29 l0 x8_2).f1))) (wrap64 (t217 + ((rd_T29 l0 x8_2).f3))) true bt220.2 (wrap64 (x8_2 + 1)))))) = some r := by rw [if_pos rfl] at H; exact H
     clear H
     have H := H1
     clear H1
     by_cases c20 : ((rd_T29 l0 x8_2).f1) > 0
     ·rw [if_pos c20] at H
      have c20b0 : decide (0 < ((rd_T29 l0 x8_2).f1)) = true := decide_eq_true c20
      clear c20
      obtain rfl := Option.some.inj H
      have p214 : 0 ≤ (x8_2 : Int) := ofDec
      have q214 : x8_2 < (l0.length : Int) := ofDec
      obtain ⟨ad214, A214_5, c214_5, e214, hx214_0, hx214_1, hx214_2, hx214_3, hx214_4, hx214_5, hl214_5, hi214_5⟩ := at_T29 HR0.out x8_2 p214 q214
      cases e214
      replace hx214_0 := cUp HB.out hx214_0
      replace hx214_1 := cUp HB.out hx214_1
      replace hx214_2 := cUp HB.out hx214_2
      replace hx214_3 := cUp HB.out hx214_3
      replace hx214_4 := cUp HB.out hx214_4
      replace hx214_5 := cUp HB.out hx214_5
      have HR214_5 := Aside0.mk hi214_5
      have HC214_5 := Aside0.mk hl214_5
      clear hi214_5 hl214_5
      replace p214 := eq_true p214
      replace q214 := eq_true q214
      go_wp2_with (first | ((with_reducible refine gate_dst (N := 9) rfl ?_); refine boxEv (N := 9) #[.int .i64 0, .int .i64 0, .int .i64 0, .int .i64 0, .string (⟨#[]⟩ : ByteArray), .slice none 0 0] 29 ?_; intro gb215 hg w21 hbox hb; have n0_ := Aside0.mk (below_step belNow hb); have n1_ := Aside0.mk (hbox); have n2_ := Aside0.mk (bszNow (w := w) hg); have n3_ := Aside0.mk (bszNow (w := w) hg); clear HB; have HB := n0_; have BK215 := n1_; have GW215 := n2_; have GE215 := n3_; clear n0_ n1_ n2_ n3_; clear hb hbox hg; have hcz22_0 : w21.cell? ⟨gb215, 0, none⟩ = some (.int .i64 0) := (blk_cell BK215.out 0).trans rfl; have hcz22_1 : w21.cell? ⟨gb215, 1, none⟩ = some (.int .i64 0) := (blk_cell BK215.out 1).trans rfl; have hcz22_2 : w21.cell? ⟨gb215, 2, none⟩ = some (.int .i64 0) := (blk_cell BK215.out 2).trans rfl; have hcz22_3 : w21.cell? ⟨gb215, 3, none⟩ = some (.int .i64 0) := (blk_cell BK215.out 3).trans rfl; have hcz22_4 : w21.cell? ⟨gb215, 4, none⟩ = some (.string (⟨#[]⟩ : ByteArray)) := (blk_cell BK215.out 4).trans rfl; have hcz22_5 : w21.cell? ⟨gb215, 5, none⟩ = some (.slice none 0 0) := (blk_cell BK215.out 5).trans rfl; have hfz22_0 := blk_frozen BK215.out 0; have hfz22_1 := blk_frozen BK215.out 1; have hfz22_2 := blk_frozen BK215.out 2; have hfz22_3 := blk_frozen BK215.out 3; have hfz22_4 := blk_frozen BK215.out 4; have hfz22_5 := blk_frozen BK215.out 5) | ((with_reducible refine gate_callee (f := 47) rfl ?_); refine goesL_ (some 40) rfl rfl Tryz.func47 (by kernel_rfl) rfl #[.int .i64 ((rd_T29 l0 x8_2).f0), .int .i64 ((rd_T29 l0 x8_2).f1)] rfl argsOk ?_; (with_reducible refine (selvageref10_Place.calls ((rd_T29 l0 x8_2).f0) ((rd_T29 l0 x8_2).f1) t216 _ A10.out).mono ?_); rintro e w' ⟨rfl, ⟨nd, rfl⟩⟩; refine ⟨_, rfl, ?_⟩) | ((with_reducible refine gate_callee (f := 47) rfl ?_); refine goesL_ (some 45) rfl rfl Tryz.func47 (by kernel_rfl) rfl #[.int .i64 ((rd_T29 l0 x8_2).f2), .int .i64 ((rd_T29 l0 x8_2).f3)] rfl argsOk ?_; (with_reducible refine (selvageref10_Place.calls ((rd_T29 l0 x8_2).f2) ((rd_T29 l0 x8_2).f3) t217 _ A11.out).mono ?_); rintro e w' ⟨rfl, ⟨nd, rfl⟩⟩; refine ⟨_, rfl, ?_⟩))
      go_ret
      exact ⟨eqEnd, belPut⟩
     rw [if_neg c20] at H
     have c20b0 : decide (0 < ((rd_T29 l0 x8_2).f1)) = false := decide_eq_false c20
     clear c20
     by_cases c23 : x7_2 = true
     rotate_left
     ·replace c23 := Bool.eq_false_iff.mpr c23
      subst c23
      have H1 : ((selvageref10_partial.f k2 ((rd_T29 l0 x8_2).f0) ((rd_T29 l0 x8_2).f1) ((rd_T29 l0 x8_2).f2) ((rd_T29 l0 x8_2).f3) ((rd_T29 l0 x8_2).f4) ((rd_T29 l0 x8_2).f5)).bind fun bt220 => (selvageref10_Order.l1 k2 l0 (wrap64 (t216 + ((rd_T29 l0 x8_2).f1))) (wrap64 (t217 + ((rd_T29 l0 x8_2).f3))) true bt220.2 (wrap64 (x8_2 + 1)))) = some r := by rw [if_neg (show ¬ (false = true) by decide)] at H; exact H
      clear H
      have H := H1
      clear H1
      replace H := Option.bind_eq_some_iff.mp H
      obtain ⟨⟨t220, t221⟩, A310, H⟩ := H
      replace H : (selvageref10_Order.l1 k2 l0 (wrap64 (t216 + ((rd_T29 l0 x8_2).f1))) (wrap64 (t217 + ((rd_T29 l0 x8_2).f3))) true t221 (wrap64 (x8_2 + 1))) = some r := H
      have A31 := Aside0.mk A310
      clear A310
      have H' := Aside0.mk H
      clear H
      have p214 : 0 ≤ (x8_2 : Int) := ofDec
      have q214 : x8_2 < (l0.length : Int) := ofDec
      obtain ⟨ad214, A214_5, c214_5, e214, hx214_0, hx214_1, hx214_2, hx214_3, hx214_4, hx214_5, hl214_5, hi214_5⟩ := at_T29 HR0.out x8_2 p214 q214
      cases e214
      replace hx214_0 := cUp HB.out hx214_0
      replace hx214_1 := cUp HB.out hx214_1
      replace hx214_2 := cUp HB.out hx214_2
      replace hx214_3 := cUp HB.out hx214_3
      replace hx214_4 := cUp HB.out hx214_4
      replace hx214_5 := cUp HB.out hx214_5
      have HR214_5 := Aside0.mk hi214_5
      have HC214_5 := Aside0.mk hl214_5
      clear hi214_5 hl214_5
      replace p214 := eq_true p214
      replace q214 := eq_true q214
      go_wp2_with (first | ((with_reducible refine gate_dst (N := 9) rfl ?_); refine boxEv (N := 9) #[.int .i64 0, .int .i64 0, .int .i64 0, .int .i64 0, .string (⟨#[]⟩ : ByteArray), .slice none 0 0] 29 ?_; intro gb215 hg w32 hbox hb; have n0_ := Aside0.mk (below_step belNow hb); have n1_ := Aside0.mk (hbox); have n2_ := Aside0.mk (bszNow (w := w) hg); have n3_ := Aside0.mk (bszNow (w := w) hg); clear HB; have HB := n0_; have BK215 := n1_; have GW215 := n2_; have GE215 := n3_; clear n0_ n1_ n2_ n3_; clear hb hbox hg; have hcz33_0 : w32.cell? ⟨gb215, 0, none⟩ = some (.int .i64 0) := (blk_cell BK215.out 0).trans rfl; have hcz33_1 : w32.cell? ⟨gb215, 1, none⟩ = some (.int .i64 0) := (blk_cell BK215.out 1).trans rfl; have hcz33_2 : w32.cell? ⟨gb215, 2, none⟩ = some (.int .i64 0) := (blk_cell BK215.out 2).trans rfl; have hcz33_3 : w32.cell? ⟨gb215, 3, none⟩ = some (.int .i64 0) := (blk_cell BK215.out 3).trans rfl; have hcz33_4 : w32.cell? ⟨gb215, 4, none⟩ = some (.string (⟨#[]⟩ : ByteArray)) := (blk_cell BK215.out 4).trans rfl; have hcz33_5 : w32.cell? ⟨gb215, 5, none⟩ = some (.slice none 0 0) := (blk_cell BK215.out 5).trans rfl; have hfz33_0 := blk_frozen BK215.out 0; have hfz33_1 := blk_frozen BK215.out 1; have hfz33_2 := blk_frozen BK215.out 2; have hfz33_3 := blk_frozen BK215.out 3; have hfz33_4 := blk_frozen BK215.out 4; have hfz33_5 := blk_frozen BK215.out 5) | ((with_reducible refine gate_callee (f := 47) rfl ?_); refine goesL_ (some 40) rfl rfl Tryz.func47 (by kernel_rfl) rfl #[.int .i64 ((rd_T29 l0 x8_2).f0), .int .i64 ((rd_T29 l0 x8_2).f1)] rfl argsOk ?_; (with_reducible refine (selvageref10_Place.calls ((rd_T29 l0 x8_2).f0) ((rd_T29 l0 x8_2).f1) t216 _ A10.out).mono ?_); rintro e w' ⟨rfl, ⟨nd, rfl⟩⟩; refine ⟨_, rfl, ?_⟩) | ((with_reducible refine gate_callee (f := 47) rfl ?_); refine goesL_ (some 45) rfl rfl Tryz.func47 (by kernel_rfl) rfl #[.int .i64 ((rd_T29 l0 x8_2).f2), .int .i64 ((rd_T29 l0 x8_2).f3)] rfl argsOk ?_; (with_reducible refine (selvageref10_Place.calls ((rd_T29 l0 x8_2).f2) ((rd_T29 l0 x8_2).f3) t217 _ A11.out).mono ?_); rintro e w' ⟨rfl, ⟨nd, rfl⟩⟩; refine ⟨_, rfl, ?_⟩) | ((with_reducible refine gate_callee (f := 48) rfl ?_); refine goesL_ (some 89) rfl rfl Tryz.func48 (by kernel_rfl) rfl #[.agg #[.int .i64 ((rd_T29 l0 x8_2).f0), .int .i64 ((rd_T29 l0 x8_2).f1), .int .i64 ((rd_T29 l0 x8_2).f2), .int .i64 ((rd_T29 l0 x8_2).f3), .string ((rd_T29 l0 x8_2).f4), .slice A214_5 ((rd_T29 l0 x8_2).f5).length c214_5]] rfl argsOk ?_; (with_reducible refine (selvageref10_partial.calls k2 ((rd_T29 l0 x8_2).f0) ((rd_T29 l0 x8_2).f1) ((rd_T29 l0 x8_2).f2) ((rd_T29 l0 x8_2).f3) ((rd_T29 l0 x8_2).f4) _ _ ((rd_T29 l0 x8_2).f5) t220 t221 _ ?side1 ?side2 A31.out).mono ?_); (case side1 => exact Kd.C_below HR214_5.out (belPut)); (case side2 => exact HC214_5.out); rintro e w34 ⟨rfl, hb⟩; refine ⟨_, rfl, ?_⟩; have n0_ := Aside0.mk (blk_below (g := gb215) (o := .cells #[.int .i64 ((rd_T29 l0 x8_2).f0), .int .i64 ((rd_T29 l0 x8_2).f1), .int .i64 ((rd_T29 l0 x8_2).f2), .int .i64 ((rd_T29 l0 x8_2).f3), .string ((rd_T29 l0 x8_2).f4), .slice A214_5 ((rd_T29 l0 x8_2).f5).length c214_5] 29 (0, 0)) (by refine bkUp ?_; refine blk_put (cs := #[.int .i64 ((rd_T29 l0 x8_2).f0), .int .i64 ((rd_T29 l0 x8_2).f1), .int .i64 ((rd_T29 l0 x8_2).f2), .int .i64 ((rd_T29 l0 x8_2).f3), .string ((rd_T29 l0 x8_2).f4), .slice none 0 0]) ?_ 5 _ rfl; refine bkUp ?_; refine blk_put (cs := #[.int .i64 ((rd_T29 l0 x8_2).f0), .int .i64 ((rd_T29 l0 x8_2).f1), .int .i64 ((rd_T29 l0 x8_2).f2), .int .i64 ((rd_T29 l0 x8_2).f3), .string (⟨#[]⟩ : ByteArray), .slice none 0 0]) ?_ 4 _ rfl; refine bkUp ?_; refine blk_put (cs := #[.int .i64 ((rd_T29 l0 x8_2).f0), .int .i64 ((rd_T29 l0 x8_2).f1), .int .i64 ((rd_T29 l0 x8_2).f2), .int .i64 0, .string (⟨#[]⟩ : ByteArray), .slice none 0 0]) ?_ 3 _ rfl; refine bkUp ?_; refine blk_put (cs := #[.int .i64 ((rd_T29 l0 x8_2).f0), .int .i64 ((rd_T29 l0 x8_2).f1), .int .i64 0, .int .i64 0, .string (⟨#[]⟩ : ByteArray), .slice none 0 0]) ?_ 2 _ rfl; refine bkUp ?_; refine blk_put (cs := #[.int .i64 ((rd_T29 l0 x8_2).f0), .int .i64 0, .int .i64 0, .int .i64 0, .string (⟨#[]⟩ : ByteArray), .slice none 0 0]) ?_ 1 _ rfl; refine bkUp ?_; refine blk_put (cs := #[.int .i64 0, .int .i64 0, .int .i64 0, .int .i64 0, .string (⟨#[]⟩ : ByteArray), .slice none 0 0]) ?_ 0 _ rfl; exact bkUp BK215.out) hb); have n1_ := Aside0.mk (below_step (belPut) hb); clear BK215 HB; have BK215 := n0_; have HB := n1_; clear n0_ n1_; (try clear hb); (try clear hb2); (try clear hk); (try clear hi)))
      go_roundg k2
      case measure => have := HK1.out; have := HK2.out; omega
      case rel => exact ⟨(wrap64 (t216 + ((rd_T29 l0 x8_2).f1))), (wrap64 (t217 + ((rd_T29 l0 x8_2).f3))), (true), (t221), (wrap64 (x8_2 + 1)), eqNow, eqNow, eqNow, eqNow, eqNow, H', ⟨by have := HK1.out; have := HK2.out; omega⟩, ⟨belPut⟩⟩
     subst c23
     have H1 : (if ((rd_T29 l0 x8_2).f3) > 0 then (some 112) else ((selvageref10_partial.f k2 ((rd_T29 l0 x8_2).f0) ((rd_T29 l0 x8_2).f1) ((rd_T29 l0 x8_2).f2) ((rd_T29 l0 x8_2).f3) ((rd_T29 l0 x8_2).f4) ((rd_T29 l0 x8_2).f5)).bind fun bt218 => (selvageref10_Order.l1 k2 l0 (wrap64 (t216 + ((rd_T29 l0 x8_2).f1))) (wrap64 (t217 + ((rd_T29 l0 x8_2).f3))) true true (wrap64 (x8_2 + 1))))) = some r := by rw [if_pos rfl] at H; exact H
     clear H
     have H := H1
     clear H1
     by_cases c24 : ((rd_T29 l0 x8_2).f3) > 0
     ·rw [if_pos c24] at H
      have c24b0 : decide (0 < ((rd_T29 l0 x8_2).f3)) = true := decide_eq_true c24
      clear c24
      obtain rfl := Option.some.inj H
      have p214 : 0 ≤ (x8_2 : Int) := ofDec
      have q214 : x8_2 < (l0.length : Int) := ofDec
      obtain ⟨ad214, A214_5, c214_5, e214, hx214_0, hx214_1, hx214_2, hx214_3, hx214_4, hx214_5, hl214_5, hi214_5⟩ := at_T29 HR0.out x8_2 p214 q214
      cases e214
      replace hx214_0 := cUp HB.out hx214_0
      replace hx214_1 := cUp HB.out hx214_1
      replace hx214_2 := cUp HB.out hx214_2
      replace hx214_3 := cUp HB.out hx214_3
      replace hx214_4 := cUp HB.out hx214_4
      replace hx214_5 := cUp HB.out hx214_5
      have HR214_5 := Aside0.mk hi214_5
      have HC214_5 := Aside0.mk hl214_5
      clear hi214_5 hl214_5
      replace p214 := eq_true p214
      replace q214 := eq_true q214
      go_wp2_with (first | ((with_reducible refine gate_dst (N := 9) rfl ?_); refine boxEv (N := 9) #[.int .i64 0, .int .i64 0, .int .i64 0, .int .i64 0, .string (⟨#[]⟩ : ByteArray), .slice none 0 0] 29 ?_; intro gb215 hg w25 hbox hb; have n0_ := Aside0.mk (below_step belNow hb); have n1_ := Aside0.mk (hbox); have n2_ := Aside0.mk (bszNow (w := w) hg); have n3_ := Aside0.mk (bszNow (w := w) hg); clear HB; have HB := n0_; have BK215 := n1_; have GW215 := n2_; have GE215 := n3_; clear n0_ n1_ n2_ n3_; clear hb hbox hg; have hcz26_0 : w25.cell? ⟨gb215, 0, none⟩ = some (.int .i64 0) := (blk_cell BK215.out 0).trans rfl; have hcz26_1 : w25.cell? ⟨gb215, 1, none⟩ = some (.int .i64 0) := (blk_cell BK215.out 1).trans rfl; have hcz26_2 : w25.cell? ⟨gb215, 2, none⟩ = some (.int .i64 0) := (blk_cell BK215.out 2).trans rfl; have hcz26_3 : w25.cell? ⟨gb215, 3, none⟩ = some (.int .i64 0) := (blk_cell BK215.out 3).trans rfl; have hcz26_4 : w25.cell? ⟨gb215, 4, none⟩ = some (.string (⟨#[]⟩ : ByteArray)) := (blk_cell BK215.out 4).trans rfl; have hcz26_5 : w25.cell? ⟨gb215, 5, none⟩ = some (.slice none 0 0) := (blk_cell BK215.out 5).trans rfl; have hfz26_0 := blk_frozen BK215.out 0; have hfz26_1 := blk_frozen BK215.out 1; have hfz26_2 := blk_frozen BK215.out 2; have hfz26_3 := blk_frozen BK215.out 3; have hfz26_4 := blk_frozen BK215.out 4; have hfz26_5 := blk_frozen BK215.out 5) | ((with_reducible refine gate_callee (f := 47) rfl ?_); refine goesL_ (some 40) rfl rfl Tryz.func47 (by kernel_rfl) rfl #[.int .i64 ((rd_T29 l0 x8_2).f0), .int .i64 ((rd_T29 l0 x8_2).f1)] rfl argsOk ?_; (with_reducible refine (selvageref10_Place.calls ((rd_T29 l0 x8_2).f0) ((rd_T29 l0 x8_2).f1) t216 _ A10.out).mono ?_); rintro e w' ⟨rfl, ⟨nd, rfl⟩⟩; refine ⟨_, rfl, ?_⟩) | ((with_reducible refine gate_callee (f := 47) rfl ?_); refine goesL_ (some 45) rfl rfl Tryz.func47 (by kernel_rfl) rfl #[.int .i64 ((rd_T29 l0 x8_2).f2), .int .i64 ((rd_T29 l0 x8_2).f3)] rfl argsOk ?_; (with_reducible refine (selvageref10_Place.calls ((rd_T29 l0 x8_2).f2) ((rd_T29 l0 x8_2).f3) t217 _ A11.out).mono ?_); rintro e w' ⟨rfl, ⟨nd, rfl⟩⟩; refine ⟨_, rfl, ?_⟩))
      go_ret
      exact ⟨eqEnd, belPut⟩
     rw [if_neg c24] at H
     have c24b0 : decide (0 < ((rd_T29 l0 x8_2).f3)) = false := decide_eq_false c24
     clear c24
     replace H := Option.bind_eq_some_iff.mp H
     obtain ⟨⟨t218, t219⟩, A270, H⟩ := H
     replace H : (selvageref10_Order.l1 k2 l0 (wrap64 (t216 + ((rd_T29 l0 x8_2).f1))) (wrap64 (t217 + ((rd_T29 l0 x8_2).f3))) true true (wrap64 (x8_2 + 1))) = some r := H
     have A27 := Aside0.mk A270
     clear A270
     have H' := Aside0.mk H
     clear H
     have p214 : 0 ≤ (x8_2 : Int) := ofDec
     have q214 : x8_2 < (l0.length : Int) := ofDec
     obtain ⟨ad214, A214_5, c214_5, e214, hx214_0, hx214_1, hx214_2, hx214_3, hx214_4, hx214_5, hl214_5, hi214_5⟩ := at_T29 HR0.out x8_2 p214 q214
     cases e214
     replace hx214_0 := cUp HB.out hx214_0
     replace hx214_1 := cUp HB.out hx214_1
     replace hx214_2 := cUp HB.out hx214_2
     replace hx214_3 := cUp HB.out hx214_3
     replace hx214_4 := cUp HB.out hx214_4
     replace hx214_5 := cUp HB.out hx214_5
     have HR214_5 := Aside0.mk hi214_5
     have HC214_5 := Aside0.mk hl214_5
     clear hi214_5 hl214_5
     replace p214 := eq_true p214
     replace q214 := eq_true q214
     go_wp2_with (first | ((with_reducible refine gate_dst (N := 9) rfl ?_); refine boxEv (N := 9) #[.int .i64 0, .int .i64 0, .int .i64 0, .int .i64 0, .string (⟨#[]⟩ : ByteArray), .slice none 0 0] 29 ?_; intro gb215 hg w28 hbox hb; have n0_ := Aside0.mk (below_step belNow hb); have n1_ := Aside0.mk (hbox); have n2_ := Aside0.mk (bszNow (w := w) hg); have n3_ := Aside0.mk (bszNow (w := w) hg); clear HB; have HB := n0_; have BK215 := n1_; have GW215 := n2_; have GE215 := n3_; clear n0_ n1_ n2_ n3_; clear hb hbox hg; have hcz29_0 : w28.cell? ⟨gb215, 0, none⟩ = some (.int .i64 0) := (blk_cell BK215.out 0).trans rfl; have hcz29_1 : w28.cell? ⟨gb215, 1, none⟩ = some (.int .i64 0) := (blk_cell BK215.out 1).trans rfl; have hcz29_2 : w28.cell? ⟨gb215, 2, none⟩ = some (.int .i64 0) := (blk_cell BK215.out 2).trans rfl; have hcz29_3 : w28.cell? ⟨gb215, 3, none⟩ = some (.int .i64 0) := (blk_cell BK215.out 3).trans rfl; have hcz29_4 : w28.cell? ⟨gb215, 4, none⟩ = some (.string (⟨#[]⟩ : ByteArray)) := (blk_cell BK215.out 4).trans rfl; have hcz29_5 : w28.cell? ⟨gb215, 5, none⟩ = some (.slice none 0 0) := (blk_cell BK215.out 5).trans rfl; have hfz29_0 := blk_frozen BK215.out 0; have hfz29_1 := blk_frozen BK215.out 1; have hfz29_2 := blk_frozen BK215.out 2; have hfz29_3 := blk_frozen BK215.out 3; have hfz29_4 := blk_frozen BK215.out 4; have hfz29_5 := blk_frozen BK215.out 5) | ((with_reducible refine gate_callee (f := 47) rfl ?_); refine goesL_ (some 40) rfl rfl Tryz.func47 (by kernel_rfl) rfl #[.int .i64 ((rd_T29 l0 x8_2).f0), .int .i64 ((rd_T29 l0 x8_2).f1)] rfl argsOk ?_; (with_reducible refine (selvageref10_Place.calls ((rd_T29 l0 x8_2).f0) ((rd_T29 l0 x8_2).f1) t216 _ A10.out).mono ?_); rintro e w' ⟨rfl, ⟨nd, rfl⟩⟩; refine ⟨_, rfl, ?_⟩) | ((with_reducible refine gate_callee (f := 47) rfl ?_); refine goesL_ (some 45) rfl rfl Tryz.func47 (by kernel_rfl) rfl #[.int .i64 ((rd_T29 l0 x8_2).f2), .int .i64 ((rd_T29 l0 x8_2).f3)] rfl argsOk ?_; (with_reducible refine (selvageref10_Place.calls ((rd_T29 l0 x8_2).f2) ((rd_T29 l0 x8_2).f3) t217 _ A11.out).mono ?_); rintro e w' ⟨rfl, ⟨nd, rfl⟩⟩; refine ⟨_, rfl, ?_⟩) | ((with_reducible refine gate_callee (f := 48) rfl ?_); refine goesL_ (some 89) rfl rfl Tryz.func48 (by kernel_rfl) rfl #[.agg #[.int .i64 ((rd_T29 l0 x8_2).f0), .int .i64 ((rd_T29 l0 x8_2).f1), .int .i64 ((rd_T29 l0 x8_2).f2), .int .i64 ((rd_T29 l0 x8_2).f3), .string ((rd_T29 l0 x8_2).f4), .slice A214_5 ((rd_T29 l0 x8_2).f5).length c214_5]] rfl argsOk ?_; (with_reducible refine (selvageref10_partial.calls k2 ((rd_T29 l0 x8_2).f0) ((rd_T29 l0 x8_2).f1) ((rd_T29 l0 x8_2).f2) ((rd_T29 l0 x8_2).f3) ((rd_T29 l0 x8_2).f4) _ _ ((rd_T29 l0 x8_2).f5) t218 t219 _ ?side1 ?side2 A27.out).mono ?_); (case side1 => exact Kd.C_below HR214_5.out (belPut)); (case side2 => exact HC214_5.out); rintro e w30 ⟨rfl, hb⟩; refine ⟨_, rfl, ?_⟩; have n0_ := Aside0.mk (blk_below (g := gb215) (o := .cells #[.int .i64 ((rd_T29 l0 x8_2).f0), .int .i64 ((rd_T29 l0 x8_2).f1), .int .i64 ((rd_T29 l0 x8_2).f2), .int .i64 ((rd_T29 l0 x8_2).f3), .string ((rd_T29 l0 x8_2).f4), .slice A214_5 ((rd_T29 l0 x8_2).f5).length c214_5] 29 (0, 0)) (by refine bkUp ?_; refine blk_put (cs := #[.int .i64 ((rd_T29 l0 x8_2).f0), .int .i64 ((rd_T29 l0 x8_2).f1), .int .i64 ((rd_T29 l0 x8_2).f2), .int .i64 ((rd_T29 l0 x8_2).f3), .string ((rd_T29 l0 x8_2).f4), .slice none 0 0]) ?_ 5 _ rfl; refine bkUp ?_; refine blk_put (cs := #[.int .i64 ((rd_T29 l0 x8_2).f0), .int .i64 ((rd_T29 l0 x8_2).f1), .int .i64 ((rd_T29 l0 x8_2).f2), .int .i64 ((rd_T29 l0 x8_2).f3), .string (⟨#[]⟩ : ByteArray), .slice none 0 0]) ?_ 4 _ rfl; refine bkUp ?_; refine blk_put (cs := #[.int .i64 ((rd_T29 l0 x8_2).f0), .int .i64 ((rd_T29 l0 x8_2).f1), .int .i64 ((rd_T29 l0 x8_2).f2), .int .i64 0, .string (⟨#[]⟩ : ByteArray), .slice none 0 0]) ?_ 3 _ rfl; refine bkUp ?_; refine blk_put (cs := #[.int .i64 ((rd_T29 l0 x8_2).f0), .int .i64 ((rd_T29 l0 x8_2).f1), .int .i64 0, .int .i64 0, .string (⟨#[]⟩ : ByteArray), .slice none 0 0]) ?_ 2 _ rfl; refine bkUp ?_; refine blk_put (cs := #[.int .i64 ((rd_T29 l0 x8_2).f0), .int .i64 0, .int .i64 0, .int .i64 0, .string (⟨#[]⟩ : ByteArray), .slice none 0 0]) ?_ 1 _ rfl; refine bkUp ?_; refine blk_put (cs := #[.int .i64 0, .int .i64 0, .int .i64 0, .int .i64 0, .string (⟨#[]⟩ : ByteArray), .slice none 0 0]) ?_ 0 _ rfl; exact bkUp BK215.out) hb); have n1_ := Aside0.mk (below_step (belPut) hb); clear BK215 HB; have BK215 := n0_; have HB := n1_; clear n0_ n1_; (try clear hb); (try clear hb2); (try clear hk); (try clear hi)))
     go_roundg k2
     case measure => have := HK1.out; have := HK2.out; omega
     case rel => exact ⟨(wrap64 (t216 + ((rd_T29 l0 x8_2).f1))), (wrap64 (t217 + ((rd_T29 l0 x8_2).f3))), (true), (true), (wrap64 (x8_2 + 1)), eqNow, eqNow, eqNow, eqNow, eqNow, H', ⟨by have := HK1.out; have := HK2.out; omega⟩, ⟨belPut⟩⟩
end Go.Proofs.YtecjoofjiockkaaGreatDoor.Pp
