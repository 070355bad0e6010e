import Derived.Test.YtecjoofjiockkaaGreatDoorESr
import Derived.Test.YtecjoofjiockkaaGreatDoorPp0
import Derived.Test.YtecjoofjiockkaaGreatDoorPp4
namespace Go.Proofs.YtecjoofjiockkaaGreatDoor.Pp
open Go.RowKit Go.Proofs.YtecjoofjiockkaaGreatDoor.Ext Go.Proofs.YtecjoofjiockkaaGreatDoorW.PrintWords Go.Proofs.YtecjoofjiockkaaGreatDoorW.PrintLast Go.Proofs.YtecjoofjiockkaaGreatDoorW.PrintMore
attribute [local go_sem] max2_int min2_int max_two min_two max_three min_three max_four min_four   -- for this text's walks alone
set_option linter.unusedVariables false
set_option linter.unusedSimpArgs false
mutual
def selvageref10_rows.l0 : Nat → List (S53) → Bool → Bool → Bool → Int → Option (Bool)
 | 0, _, _, _, _, _ => none
 | k + 1, x0, x3, x4, x5, x6 => if x6 < (x0.length : Int) then (if 0 ≤ x6 then ((selvageref10_old.f ((rd_T53 x0 x6).f0) ((rd_T53 x0 x6).f1)).bind fun t130 => (if t130 = true then ((selvageref10_line.f k ((rd_T53 x0 x6).f1)).bind fun t131 => (if t131 = true then ((selvageref10_old.f ((rd_T53 x0 x6).f0) ((rd_T53 x0 x6).f1)).bind fun t132 => (if t132 = true then (if x3 = true then (selvageref10_rows.j1 k x0 x3 x4 x5 x6 true ((rd_T53 x0 x6).f0) ((rd_T53 x0 x6).f1)) else ((selvageref10_fresh.f ((rd_T53 x0 x6).f0) ((rd_T53 x0 x6).f1)).bind fun t133 => (if t133 = true then (selvageref10_rows.j1 k x0 x3 x4 x5 x6 x4 ((rd_T53 x0 x6).f0) ((rd_T53 x0 x6).f1)) else (selvageref10_rows.j1 k x0 x3 x4 x5 x6 false ((rd_T53 x0 x6).f0) ((rd_T53 x0 x6).f1))))) else ((selvageref10_fresh.f ((rd_T53 x0 x6).f0) ((rd_T53 x0 x6).f1)).bind fun t134 => (if t134 = true then (selvageref10_rows.j1 k x0 x3 x4 x5 x6 x4 ((rd_T53 x0 x6).f0) ((rd_T53 x0 x6).f1)) else (selvageref10_rows.j1 k x0 x3 x4 x5 x6 false ((rd_T53 x0 x6).f0) ((rd_T53 x0 x6).f1)))))) else (selvageref10_rows.j1 k x0 x3 x4 x5 x6 true ((rd_T53 x0 x6).f0) ((rd_T53 x0 x6).f1)))) else ((selvageref10_fresh.f ((rd_T53 x0 x6).f0) ((rd_T53 x0 x6).f1)).bind fun t135 => (if t135 = true then ((selvageref10_line.f k ((rd_T53 x0 x6).f1)).bind fun t136 => (if t136 = true then ((selvageref10_old.f ((rd_T53 x0 x6).f0) ((rd_T53 x0 x6).f1)).bind fun t137 => (if t137 = true then (if x3 = true then (selvageref10_rows.j1 k x0 x3 x4 x5 x6 true ((rd_T53 x0 x6).f0) ((rd_T53 x0 x6).f1)) else ((selvageref10_fresh.f ((rd_T53 x0 x6).f0) ((rd_T53 x0 x6).f1)).bind fun t138 => (if t138 = true then (selvageref10_rows.j1 k x0 x3 x4 x5 x6 x4 ((rd_T53 x0 x6).f0) ((rd_T53 x0 x6).f1)) else (selvageref10_rows.j1 k x0 x3 x4 x5 x6 false ((rd_T53 x0 x6).f0) ((rd_T53 x0 x6).f1))))) else ((selvageref10_fresh.f ((rd_T53 x0 x6).f0) ((rd_T53 x0 x6).f1)).bind fun t139 => (if t139 = true then (selvageref10_rows.j1 k x0 x3 x4 x5 x6 x4 ((rd_T53 x0 x6).f0) ((rd_T53 x0 x6).f1)) else (selvageref10_rows.j1 k x0 x3 x4 x5 x6 false ((rd_T53 x0 x6).f0) ((rd_T53 x0 x6).f1)))))) else (selvageref10_rows.j1 k x0 x3 x4 x5 x6 true ((rd_T53 x0 x6).f0) ((rd_T53 x0 x6).f1)))) else (selvageref10_rows.j1 k x0 x3 x4 x5 x6 true ((rd_T53 x0 x6).f0) ((rd_T53 x0 x6).f1)))))) else (none)) else (some x5)
def selvageref10_rows.j1 : Nat → List (S53) → Bool → Bool → Bool → Int → Bool → Int → ByteArray → Option (Bool)
 | 0, _, _, _, _, _, _, _, _ => none
 | k + 1, x0, x3, x4, x5, x6, x46, x130000, x130001 => if x46 = true then (some false) else ((selvageref01_Whole.f x130001).bind fun t140 => (if x3 = true then (if x4 = true then (if x5 = true then (selvageref10_rows.l0 k x0 true true true (wrap64 (x6 + 1))) else (selvageref10_rows.l0 k x0 true true (x130000 != 1) (wrap64 (x6 + 1)))) else (if t140 = true then (if x5 = true then (selvageref10_rows.l0 k x0 true false true (wrap64 (x6 + 1))) else (selvageref10_rows.l0 k x0 true false (x130000 != 1) (wrap64 (x6 + 1)))) else ((selvageref10_fresh.f x130000 x130001).bind fun t141 => (if x5 = true then (selvageref10_rows.l0 k x0 true t141 true (wrap64 (x6 + 1))) else (selvageref10_rows.l0 k x0 true t141 (x130000 != 1) (wrap64 (x6 + 1))))))) else (if t140 = true then (if x4 = true then (if x5 = true then (selvageref10_rows.l0 k x0 false true true (wrap64 (x6 + 1))) else (selvageref10_rows.l0 k x0 false true (x130000 != 1) (wrap64 (x6 + 1)))) else (if x5 = true then (selvageref10_rows.l0 k x0 false false true (wrap64 (x6 + 1))) else (selvageref10_rows.l0 k x0 false false (x130000 != 1) (wrap64 (x6 + 1))))) else ((selvageref10_old.f x130000 x130001).bind fun t142 => (if x4 = true then (if x5 = true then (selvageref10_rows.l0 k x0 t142 true true (wrap64 (x6 + 1))) else (selvageref10_rows.l0 k x0 t142 true (x130000 != 1) (wrap64 (x6 + 1)))) else ((selvageref10_fresh.f x130000 x130001).bind fun t143 => (if x5 = true then (selvageref10_rows.l0 k x0 t142 t143 true (wrap64 (x6 + 1))) else (selvageref10_rows.l0 k x0 t142 t143 (x130000 != 1) (wrap64 (x6 + 1))))))))))
end
def selvageref10_rows.f (k : Nat) (l0 : List (S53)) : Option (Bool) := selvageref10_rows.l0 k l0 false false false 0
set_option maxHeartbeats 80000000 in
set_option maxRecDepth 100000 in
theorem selvageref10_rows.calls (k : Nat) (A0 : Option Addr) (c0 : Nat) (l0 : List (S53)) (r : Bool) (w : World) (hr0 : Kd.C k53 w A0 l0.length l0) (hc0 : l0.length ≤ c0) (h : selvageref10_rows.f k l0 = some r) :
  Calls Tryz.prog 44 #[.slice A0 l0.length c0] w fun e w' => e = .returned (.bool r) ∧ Below w.heap.size w w' := by
 have hu53 := Tryz.underlying53
 have HR0 := Aside0.mk hr0
 have HC0 := Aside0.mk hc0
 clear hr0 hc0
 have HB := Aside0.mk (Below.refl w.heap.size w)
 have H : (selvageref10_rows.l0 k l0 false false false 0) = some r := h
 clear h
 have H' := Aside0.mk H
 clear H
 go_enter Tryz.func44, Tryz.ntmps44
 try simp only [List.append_eq, List.cons_append, List.nil_append]
 go_wp2
 go_loopg [3, 4, 5, 6] k (fun kq v3 v4 v5 v6 w' => ∃ (x3_1 : Bool) (x4_1 : Bool) (x5_1 : Bool) (x6_1 : Int), v3 = .bool x3_1 ∧ v4 = .bool x4_1 ∧ v5 = .bool x5_1 ∧ v6 = .int .i64 x6_1 ∧ Aside0 (selvageref10_rows.l0 kq l0 x3_1 x4_1 x5_1 x6_1 = some r) ∧ Aside0 (kq ≤ k) ∧ Aside0 (Below w.heap.size w w'))
 case atStart => exact ⟨(false), (false), (false), (0), eqNow, eqNow, eqNow, eqNow, H', ⟨Nat.le_refl _⟩, ⟨belNow⟩⟩
 case round =>
  clear H'
  obtain ⟨x3_1, x4_1, x5_1, x6_1, rfl, rfl, rfl, rfl, HA, HK1, HB⟩ := hrel
  cases gk with
  | zero => exact absurd HA.out (by simp [selvageref10_rows.l0])
  | succ k1 =>
   have H := HA.out
   clear HA
   simp only [selvageref10_rows.l0] at H
   by_cases c2 : x6_1 < (l0.length : Int)
   rotate_left
   ·rw [if_neg c2] at H
    have c2b0 : decide (x6_1 < (l0.length : Int)) = false := decide_eq_false c2
    clear c2
    obtain rfl := Option.some.inj H
    go_wp2
    go_ret
    exact ⟨eqEnd, belNow⟩
   rw [if_pos c2] at H
   have c2b0 : decide (x6_1 < (l0.length : Int)) = true := decide_eq_true c2
   clear c2
   by_cases c3 : 0 ≤ x6_1
   rotate_left
   ·rw [if_neg c3] at H
    exact absurd H (by simp)
   rw [if_pos c3] at H
   have c3b0 : decide (0 ≤ x6_1) = true := decide_eq_true c3
   clear c3
   have HC4 := Aside0.mk H
   clear H
   have p128 : 0 ≤ (x6_1 : Int) := ofDec
   have q128 : x6_1 < (l0.length : Int) := ofDec
   obtain ⟨ad128, e128, hx128_0, hx128_1⟩ := at_T53 HR0.out x6_1 p128 q128
   cases e128
   replace hx128_0 := cUp HB.out hx128_0
   replace hx128_1 := cUp HB.out hx128_1
   replace p128 := eq_true p128
   replace q128 := eq_true q128
   go_upto_region 6 with (first | ((with_reducible refine gate_dst (N := 7) rfl ?_); refine boxEv (N := 7) #[.int .i64 0, .string (⟨#[]⟩ : ByteArray)] 53 ?_; intro gb129 hg w5 hbox hb; have n0_ := Aside0.mk (below_step belNow hb); have n1_ := Aside0.mk (hbox); have n2_ := Aside0.mk (bszNow (w := w) hg); have n3_ := Aside0.mk (bszNow (w := w) hg); clear HB; have HB := n0_; have BK129 := n1_; have GW129 := n2_; have GE129 := n3_; clear n0_ n1_ n2_ n3_; clear hb hbox hg; have hcz6_0 : w5.cell? ⟨gb129, 0, none⟩ = some (.int .i64 0) := (blk_cell BK129.out 0).trans rfl; have hcz6_1 : w5.cell? ⟨gb129, 1, none⟩ = some (.string (⟨#[]⟩ : ByteArray)) := (blk_cell BK129.out 1).trans rfl; have hfz6_0 := blk_frozen BK129.out 0; have hfz6_1 := blk_frozen BK129.out 1))
   (try simp only [Act.put, List.setIfInBounds_toArray, List.set_cons_zero, List.set_cons_succ])
   go_cut [46] (fun v46 wc => ∃ (kq : Nat) (x46_3 : Bool), v46 = .bool x46_3 ∧ Aside0 (selvageref10_rows.j1 kq l0 x3_1 x4_1 x5_1 x6_1 x46_3 ((rd_T53 l0 x6_1).f0) ((rd_T53 l0 x6_1).f1) = some r) ∧ Aside0 (kq ≤ k1) ∧ Aside0 (wc.heap[gb129]? = some (.cells #[.int .i64 ((rd_T53 l0 x6_1).f0), .string ((rd_T53 l0 x6_1).f1)] 53 (0, 0))) ∧ Aside0 (Below w.heap.size w wc))
   case first =>
    have H := HC4.out
    clear HC4
    replace H := Option.bind_eq_some_iff.mp H
    obtain ⟨t130, A70, H⟩ := H
    replace H : (if t130 = true then ((selvageref10_line.f k1 ((rd_T53 l0 x6_1).f1)).bind fun t131 => (if t131 = true then ((selvageref10_old.f ((rd_T53 l0 x6_1).f0) ((rd_T53 l0 x6_1).f1)).bind fun t132 => (if t132 = true then (if x3_1 = true then (selvageref10_rows.j1 k1 l0 x3_1 x4_1 x5_1 x6_1 true ((rd_T53 l0 x6_1).f0) ((rd_T53 l0 x6_1).f1)) else ((selvageref10_fresh.f ((rd_T53 l0 x6_1).f0) ((rd_T53 l0 x6_1).f1)).bind fun t133 => (if t133 = true then (selvageref10_rows.j1 k1 l0 x3_1 x4_1 x5_1 x6_1 x4_1 ((rd_T53 l0 x6_1).f0) ((rd_T53 l0 x6_1).f1)) else (selvageref10_rows.j1 k1 l0 x3_1 x4_1 x5_1 x6_1 false ((rd_T53 l0 x6_1).f0) ((rd_T53 l0 x6_1).f1))))) else ((selvageref10_fresh.f ((rd_T53 l0 x6_1).f0) ((rd_T53 l0 x6_1).f1)).bind fun t134 => (if t134 = true then (selvageref10_rows.j1 k1 l0 x3_1 x4_1 x5_1 x6_1 x4_1 ((rd_T53 l0 x6_1).f0) ((rd_T53 l0 x6_1).f1)) else (selvageref10_rows.j1 k1 l0 x3_1 x4_1 x5_1 x6_1 false ((rd_T53 l0 x6_1).f0) ((rd_T53 l0 x6_1).f1)))))) else (selvageref10_rows.j1 k1 l0 x3_1 x4_1 x5_1 x6_1 true ((rd_T53 l0 x6_1).f0) ((rd_T53 l0 x6_1).f1)))) else ((selvageref10_fresh.f ((rd_T53 l0 x6_1).f0) ((rd_T53 l0 x6_1).f1)).bind fun t135 => (if t135 = true then ((selvageref10_line.f k1 ((rd_T53 l0 x6_1).f1)).bind fun t136 => (if t136 = true then ((selvageref10_old.f ((rd_T53 l0 x6_1).f0) ((rd_T53 l0 x6_1).f1)).bind fun t137 => (if t137 = true then (if x3_1 = true then (selvageref10_rows.j1 k1 l0 x3_1 x4_1 x5_1 x6_1 true ((rd_T53 l0 x6_1).f0) ((rd_T53 l0 x6_1).f1)) else ((selvageref10_fresh.f ((rd_T53 l0 x6_1).f0) ((rd_T53 l0 x6_1).f1)).bind fun t138 => (if t138 = true then (selvageref10_rows.j1 k1 l0 x3_1 x4_1 x5_1 x6_1 x4_1 ((rd_T53 l0 x6_1).f0) ((rd_T53 l0 x6_1).f1)) else (selvageref10_rows.j1 k1 l0 x3_1 x4_1 x5_1 x6_1 false ((rd_T53 l0 x6_1).f0) ((rd_T53 l0 x6_1).f1))))) else ((selvageref10_fresh.f ((rd_T53 l0 x6_1).f0) ((rd_T53 l0 x6_1).f1)).bind fun t139 => (if t139 = true then (selvageref10_rows.j1 k1 l0 x3_1 x4_1 x5_1 x6_1 x4_1 ((rd_T53 l0 x6_1).f0) ((rd_T53 l0 x6_1).f1)) else (selvageref10_rows.j1 k1 l0 x3_1 x4_1 x5_1 x6_1 false ((rd_T53 l0 x6_1).f0) ((rd_T53 l0 x6_1).f1)))))) else (selvageref10_rows.j1 k1 l0 x3_1 x4_1 x5_1 x6_1 true ((rd_T53 l0 x6_1).f0) ((rd_T53 l0 x6_1).f1)))) else (selvageref10_rows.j1 k1 l0 x3_1 x4_1 x5_1 x6_1 true ((rd_T53 l0 x6_1).f0) ((rd_T53 l0 x6_1).f1))))) = some r := H
    have A7 := Aside0.mk A70
    clear A70
    by_cases c8 : t130 = true
    ·subst c8
     have H1 : ((selvageref10_line.f k1 ((rd_T53 l0 x6_1).f1)).bind fun t131 => (if t131 = true then ((selvageref10_old.f ((rd_T53 l0 x6_1).f0) ((rd_T53 l0 x6_1).f1)).bind fun t132 => (if t132 = true then (if x3_1 = true then (selvageref10_rows.j1 k1 l0 x3_1 x4_1 x5_1 x6_1 true ((rd_T53 l0 x6_1).f0) ((rd_T53 l0 x6_1).f1)) else ((selvageref10_fresh.f ((rd_T53 l0 x6_1).f0) ((rd_T53 l0 x6_1).f1)).bind fun t133 => (if t133 = true then (selvageref10_rows.j1 k1 l0 x3_1 x4_1 x5_1 x6_1 x4_1 ((rd_T53 l0 x6_1).f0) ((rd_T53 l0 x6_1).f1)) else (selvageref10_rows.j1 k1 l0 x3_1 x4_1 x5_1 x6_1 false ((rd_T53 l0 x6_1).f0) ((rd_T53 l0 x6_1).f1))))) else ((selvageref10_fresh.f ((rd_T53 l0 x6_1).f0) ((rd_T53 l0 x6_1).f1)).bind fun t134 => (if t134 = true then (selvageref10_rows.j1 k1 l0 x3_1 x4_1 x5_1 x6_1 x4_1 ((rd_T53 l0 x6_1).f0) ((rd_T53 l0 x6_1).f1)) else (selvageref10_rows.j1 k1 l0 x3_1 x4_1 x5_1 x6_1 false ((rd_T53 l0 x6_1).f0) ((rd_T53 l0 x6_1).f1)))))) else (selvageref10_rows.j1 k1 l0 x3_1 x4_1 x5_1 x6_1 true ((rd_T53 l0 x6_1).f0) ((rd_T53 l0 x6_1).f1)))) = some r := by rw [if_pos rfl] at H; exact H
     clear H
     have H := H1
     clear H1
     replace H := Option.bind_eq_some_iff.mp H
     obtain ⟨t131, A90, H⟩ := H
     replace H : (if t131 = true then ((selvageref10_old.f ((rd_T53 l0 x6_1).f0) ((rd_T53 l0 x6_1).f1)).bind fun t132 => (if t132 = true then (if x3_1 = true then (selvageref10_rows.j1 k1 l0 x3_1 x4_1 x5_1 x6_1 true ((rd_T53 l0 x6_1).f0) ((rd_T53 l0 x6_1).f1)) else ((selvageref10_fresh.f ((rd_T53 l0 x6_1).f0) ((rd_T53 l0 x6_1).f1)).bind fun t133 => (if t133 = true then (selvageref10_rows.j1 k1 l0 x3_1 x4_1 x5_1 x6_1 x4_1 ((rd_T53 l0 x6_1).f0) ((rd_T53 l0 x6_1).f1)) else (selvageref10_rows.j1 k1 l0 x3_1 x4_1 x5_1 x6_1 false ((rd_T53 l0 x6_1).f0) ((rd_T53 l0 x6_1).f1))))) else ((selvageref10_fresh.f ((rd_T53 l0 x6_1).f0) ((rd_T53 l0 x6_1).f1)).bind fun t134 => (if t134 = true then (selvageref10_rows.j1 k1 l0 x3_1 x4_1 x5_1 x6_1 x4_1 ((rd_T53 l0 x6_1).f0) ((rd_T53 l0 x6_1).f1)) else (selvageref10_rows.j1 k1 l0 x3_1 x4_1 x5_1 x6_1 false ((rd_T53 l0 x6_1).f0) ((rd_T53 l0 x6_1).f1)))))) else (selvageref10_rows.j1 k1 l0 x3_1 x4_1 x5_1 x6_1 true ((rd_T53 l0 x6_1).f0) ((rd_T53 l0 x6_1).f1))) = some r := H
     have A9 := Aside0.mk A90
     clear A90
     by_cases c10 : t131 = true
     rotate_left
     ·replace c10 := Bool.eq_false_iff.mpr c10
      subst c10
      have H1 : (selvageref10_rows.j1 k1 l0 x3_1 x4_1 x5_1 x6_1 true ((rd_T53 l0 x6_1).f0) ((rd_T53 l0 x6_1).f1)) = some r := by rw [if_neg (show ¬ (false = true) by decide)] at H; exact H
      clear H
      have H := H1
      clear H1
      have H' := Aside0.mk H
      clear H
      have hcz46_0 : w5.cell? ⟨gb129, 0, none⟩ = some (.int .i64 0) := (blk_cell BK129.out 0).trans rfl
      have hcz46_1 : w5.cell? ⟨gb129, 1, none⟩ = some (.string (⟨#[]⟩ : ByteArray)) := (blk_cell BK129.out 1).trans rfl
      have hfz46_0 := blk_frozen BK129.out 0
      have hfz46_1 := blk_frozen BK129.out 1
      go_wp2_with (first | ((with_reducible refine gate_callee (f := 68) rfl ?_); refine goesL_ (some 20) rfl rfl Tryz.func68 (by kernel_rfl) rfl #[.agg #[.int .i64 ((rd_T53 l0 x6_1).f0), .string ((rd_T53 l0 x6_1).f1)]] rfl argsOk ?_; (with_reducible refine (selvageref10_old.calls ((rd_T53 l0 x6_1).f0) ((rd_T53 l0 x6_1).f1) true _ A7.out).mono ?_); rintro e w47 ⟨rfl, hb⟩; refine ⟨_, rfl, ?_⟩; have n0_ := Aside0.mk (blk_below (g := gb129) (o := .cells #[.int .i64 ((rd_T53 l0 x6_1).f0), .string ((rd_T53 l0 x6_1).f1)] 53 (0, 0)) (by refine bkUp ?_; refine blk_put (cs := #[.int .i64 ((rd_T53 l0 x6_1).f0), .string (⟨#[]⟩ : ByteArray)]) ?_ 1 _ rfl; refine bkUp ?_; refine blk_put (cs := #[.int .i64 0, .string (⟨#[]⟩ : ByteArray)]) ?_ 0 _ rfl; exact bkUp BK129.out) hb); have n1_ := Aside0.mk (below_step (belPut) hb); clear BK129 HB; have BK129 := n0_; have HB := n1_; clear n0_ n1_; (try clear hb); (try clear hb2); (try clear hk); (try clear hi); have hcz48_0 : w47.cell? ⟨gb129, 0, none⟩ = some (.int .i64 ((rd_T53 l0 x6_1).f0)) := (blk_cell BK129.out 0).trans rfl; have hcz48_1 : w47.cell? ⟨gb129, 1, none⟩ = some (.string ((rd_T53 l0 x6_1).f1)) := (blk_cell BK129.out 1).trans rfl; have hfz48_0 := blk_frozen BK129.out 0; have hfz48_1 := blk_frozen BK129.out 1) | (go_at_call 88; (with_reducible refine (selvageref10_line.calls k1 ((rd_T53 l0 x6_1).f1) false _ A9.out).mono ?_); rintro e w' ⟨rfl, ⟨nd, rfl⟩⟩))
      go_meet
      case rel => exact ⟨_, (true), eqNow, H', ⟨by have := HK1.out; first | omega | exact Nat.le_refl _⟩, ⟨by exact bkUp BK129.out⟩, ⟨belPut⟩⟩
     subst c10
     have H1 : ((selvageref10_old.f ((rd_T53 l0 x6_1).f0) ((rd_T53 l0 x6_1).f1)).bind fun t132 => (if t132 = true then (if x3_1 = true then (selvageref10_rows.j1 k1 l0 x3_1 x4_1 x5_1 x6_1 true ((rd_T53 l0 x6_1).f0) ((rd_T53 l0 x6_1).f1)) else ((selvageref10_fresh.f ((rd_T53 l0 x6_1).f0) ((rd_T53 l0 x6_1).f1)).bind fun t133 => (if t133 = true then (selvageref10_rows.j1 k1 l0 x3_1 x4_1 x5_1 x6_1 x4_1 ((rd_T53 l0 x6_1).f0) ((rd_T53 l0 x6_1).f1)) else (selvageref10_rows.j1 k1 l0 x3_1 x4_1 x5_1 x6_1 false ((rd_T53 l0 x6_1).f0) ((rd_T53 l0 x6_1).f1))))) else ((selvageref10_fresh.f ((rd_T53 l0 x6_1).f0) ((rd_T53 l0 x6_1).f1)).bind fun t134 => (if t134 = true then (selvageref10_rows.j1 k1 l0 x3_1 x4_1 x5_1 x6_1 x4_1 ((rd_T53 l0 x6_1).f0) ((rd_T53 l0 x6_1).f1)) else (selvageref10_rows.j1 k1 l0 x3_1 x4_1 x5_1 x6_1 false ((rd_T53 l0 x6_1).f0) ((rd_T53 l0 x6_1).f1)))))) = some r := by rw [if_pos rfl] at H; exact H
     clear H
     have H := H1
     clear H1
     replace H := Option.bind_eq_some_iff.mp H
     obtain ⟨t132, A110, H⟩ := H
     replace H : (if t132 = true then (if x3_1 = true then (selvageref10_rows.j1 k1 l0 x3_1 x4_1 x5_1 x6_1 true ((rd_T53 l0 x6_1).f0) ((rd_T53 l0 x6_1).f1)) else ((selvageref10_fresh.f ((rd_T53 l0 x6_1).f0) ((rd_T53 l0 x6_1).f1)).bind fun t133 => (if t133 = true then (selvageref10_rows.j1 k1 l0 x3_1 x4_1 x5_1 x6_1 x4_1 ((rd_T53 l0 x6_1).f0) ((rd_T53 l0 x6_1).f1)) else (selvageref10_rows.j1 k1 l0 x3_1 x4_1 x5_1 x6_1 false ((rd_T53 l0 x6_1).f0) ((rd_T53 l0 x6_1).f1))))) else ((selvageref10_fresh.f ((rd_T53 l0 x6_1).f0) ((rd_T53 l0 x6_1).f1)).bind fun t134 => (if t134 = true then (selvageref10_rows.j1 k1 l0 x3_1 x4_1 x5_1 x6_1 x4_1 ((rd_T53 l0 x6_1).f0) ((rd_T53 l0 x6_1).f1)) else (selvageref10_rows.j1 k1 l0 x3_1 x4_1 x5_1 x6_1 false ((rd_T53 l0 x6_1).f0) ((rd_T53 l0 x6_1).f1))))) = some r := H
     have A11 := Aside0.mk A110
     clear A110
     by_cases c12 : t132 = true
     rotate_left
     ·replace c12 := Bool.eq_false_iff.mpr c12
      subst c12
      have H1 : ((selvageref10_fresh.f ((rd_T53 l0 x6_1).f0) ((rd_T53 l0 x6_1).f1)).bind fun t134 => (if t134 = true then (selvageref10_rows.j1 k1 l0 x3_1 x4_1 x5_1 x6_1 x4_1 ((rd_T53 l0 x6_1).f0) ((rd_T53 l0 x6_1).f1)) else (selvageref10_rows.j1 k1 l0 x3_1 x4_1 x5_1 x6_1 false ((rd_T53 l0 x6_1).f0) ((rd_T53 l0 x6_1).f1)))) = some r := by rw [if_neg (show ¬ (false = true) by decide)] at H; exact H
      clear H
      have H := H1
      clear H1
      replace H := Option.bind_eq_some_iff.mp H
      obtain ⟨t134, A320, H⟩ := H
      replace H : (if t134 = true then (selvageref10_rows.j1 k1 l0 x3_1 x4_1 x5_1 x6_1 x4_1 ((rd_T53 l0 x6_1).f0) ((rd_T53 l0 x6_1).f1)) else (selvageref10_rows.j1 k1 l0 x3_1 x4_1 x5_1 x6_1 false ((rd_T53 l0 x6_1).f0) ((rd_T53 l0 x6_1).f1))) = some r := H
      have A32 := Aside0.mk A320
      clear A320
      by_cases c33 : t134 = true
      ·subst c33
       have H1 : (selvageref10_rows.j1 k1 l0 x3_1 x4_1 x5_1 x6_1 x4_1 ((rd_T53 l0 x6_1).f0) ((rd_T53 l0 x6_1).f1)) = some r := by rw [if_pos rfl] at H; exact H
       clear H
       have H := H1
       clear H1
       have H' := Aside0.mk H
       clear H
       have hcz34_0 : w5.cell? ⟨gb129, 0, none⟩ = some (.int .i64 0) := (blk_cell BK129.out 0).trans rfl
       have hcz34_1 : w5.cell? ⟨gb129, 1, none⟩ = some (.string (⟨#[]⟩ : ByteArray)) := (blk_cell BK129.out 1).trans rfl
       have hfz34_0 := blk_frozen BK129.out 0
       have hfz34_1 := blk_frozen BK129.out 1
       go_wp2_with (first | ((with_reducible refine gate_callee (f := 68) rfl ?_); refine goesL_ (some 20) rfl rfl Tryz.func68 (by kernel_rfl) rfl #[.agg #[.int .i64 ((rd_T53 l0 x6_1).f0), .string ((rd_T53 l0 x6_1).f1)]] rfl argsOk ?_; (with_reducible refine (selvageref10_old.calls ((rd_T53 l0 x6_1).f0) ((rd_T53 l0 x6_1).f1) true _ A7.out).mono ?_); rintro e w35 ⟨rfl, hb⟩; refine ⟨_, rfl, ?_⟩; have n0_ := Aside0.mk (blk_below (g := gb129) (o := .cells #[.int .i64 ((rd_T53 l0 x6_1).f0), .string ((rd_T53 l0 x6_1).f1)] 53 (0, 0)) (by refine bkUp ?_; refine blk_put (cs := #[.int .i64 ((rd_T53 l0 x6_1).f0), .string (⟨#[]⟩ : ByteArray)]) ?_ 1 _ rfl; refine bkUp ?_; refine blk_put (cs := #[.int .i64 0, .string (⟨#[]⟩ : ByteArray)]) ?_ 0 _ rfl; exact bkUp BK129.out) hb); have n1_ := Aside0.mk (below_step (belPut) hb); clear BK129 HB; have BK129 := n0_; have HB := n1_; clear n0_ n1_; (try clear hb); (try clear hb2); (try clear hk); (try clear hi); have hcz36_0 : w35.cell? ⟨gb129, 0, none⟩ = some (.int .i64 ((rd_T53 l0 x6_1).f0)) := (blk_cell BK129.out 0).trans rfl; have hcz36_1 : w35.cell? ⟨gb129, 1, none⟩ = some (.string ((rd_T53 l0 x6_1).f1)) := (blk_cell BK129.out 1).trans rfl; have hfz36_0 := blk_frozen BK129.out 0; have hfz36_1 := blk_frozen BK129.out 1) | (go_at_call 88; (with_reducible refine (selvageref10_line.calls k1 ((rd_T53 l0 x6_1).f1) true _ A9.out).mono ?_); rintro e w' ⟨rfl, ⟨nd, rfl⟩⟩) | (go_at_call 68; (with_reducible refine (selvageref10_old.calls ((rd_T53 l0 x6_1).f0) ((rd_T53 l0 x6_1).f1) false _ A11.out).mono ?_); rintro e w37 ⟨rfl, hb⟩; have n0_ := Aside0.mk (blk_below (g := gb129) (o := .cells #[.int .i64 ((rd_T53 l0 x6_1).f0), .string ((rd_T53 l0 x6_1).f1)] 53 (0, 0)) (bkUp BK129.out) hb); have n1_ := Aside0.mk (below_step (belPut) hb); clear BK129 HB; have BK129 := n0_; have HB := n1_; clear n0_ n1_; (try clear hb); (try clear hb2); (try clear hk); (try clear hi); have hcz38_0 : w37.cell? ⟨gb129, 0, none⟩ = some (.int .i64 ((rd_T53 l0 x6_1).f0)) := (blk_cell BK129.out 0).trans rfl; have hcz38_1 : w37.cell? ⟨gb129, 1, none⟩ = some (.string ((rd_T53 l0 x6_1).f1)) := (blk_cell BK129.out 1).trans rfl; have hfz38_0 := blk_frozen BK129.out 0; have hfz38_1 := blk_frozen BK129.out 1) | (go_at_call 69; (with_reducible refine (selvageref10_fresh.calls ((rd_T53 l0 x6_1).f0) ((rd_T53 l0 x6_1).f1) true _ A32.out).mono ?_); rintro e w39 ⟨rfl, hb⟩; have n0_ := Aside0.mk (blk_below (g := gb129) (o := .cells #[.int .i64 ((rd_T53 l0 x6_1).f0), .string ((rd_T53 l0 x6_1).f1)] 53 (0, 0)) (bkUp BK129.out) hb); have n1_ := Aside0.mk (below_step (belPut) hb); clear BK129 HB; have BK129 := n0_; have HB := n1_; clear n0_ n1_; (try clear hb); (try clear hb2); (try clear hk); (try clear hi)))
       go_meet
       case rel => exact ⟨_, (x4_1), eqNow, H', ⟨by have := HK1.out; first | omega | exact Nat.le_refl _⟩, ⟨by exact bkUp BK129.out⟩, ⟨belPut⟩⟩
      replace c33 := Bool.eq_false_iff.mpr c33
      subst c33
      have H1 : (selvageref10_rows.j1 k1 l0 x3_1 x4_1 x5_1 x6_1 false ((rd_T53 l0 x6_1).f0) ((rd_T53 l0 x6_1).f1)) = some r := by rw [if_neg (show ¬ (false = true) by decide)] at H; exact H
      clear H
      have H := H1
      clear H1
      have H' := Aside0.mk H
      clear H
      have hcz40_0 : w5.cell? ⟨gb129, 0, none⟩ = some (.int .i64 0) := (blk_cell BK129.out 0).trans rfl
      have hcz40_1 : w5.cell? ⟨gb129, 1, none⟩ = some (.string (⟨#[]⟩ : ByteArray)) := (blk_cell BK129.out 1).trans rfl
      have hfz40_0 := blk_frozen BK129.out 0
      have hfz40_1 := blk_frozen BK129.out 1
      go_wp2_with (first | ((with_reducible refine gate_callee (f := 68) rfl ?_); refine goesL_ (some 20) rfl rfl Tryz.func68 (by kernel_rfl) rfl #[.agg #[.int .i64 ((rd_T53 l0 x6_1).f0), .string ((rd_T53 l0 x6_1).f1)]] rfl argsOk ?_; (with_reducible refine (selvageref10_old.calls ((rd_T53 l0 x6_1).f0) ((rd_T53 l0 x6_1).f1) true _ A7.out).mono ?_); rintro e w41 ⟨rfl, hb⟩; refine ⟨_, rfl, ?_⟩; have n0_ := Aside0.mk (blk_below (g := gb129) (o := .cells #[.int .i64 ((rd_T53 l0 x6_1).f0), .string ((rd_T53 l0 x6_1).f1)] 53 (0, 0)) (by refine bkUp ?_; refine blk_put (cs := #[.int .i64 ((rd_T53 l0 x6_1).f0), .string (⟨#[]⟩ : ByteArray)]) ?_ 1 _ rfl; refine bkUp ?_; refine blk_put (cs := #[.int .i64 0, .string (⟨#[]⟩ : ByteArray)]) ?_ 0 _ rfl; exact bkUp BK129.out) hb); have n1_ := Aside0.mk (below_step (belPut) hb); clear BK129 HB; have BK129 := n0_; have HB := n1_; clear n0_ n1_; (try clear hb); (try clear hb2); (try clear hk); (try clear hi); have hcz42_0 : w41.cell? ⟨gb129, 0, none⟩ = some (.int .i64 ((rd_T53 l0 x6_1).f0)) := (blk_cell BK129.out 0).trans rfl; have hcz42_1 : w41.cell? ⟨gb129, 1, none⟩ = some (.string ((rd_T53 l0 x6_1).f1)) := (blk_cell BK129.out 1).trans rfl; have hfz42_0 := blk_frozen BK129.out 0; have hfz42_1 := blk_frozen BK129.out 1) | (go_at_call 88; (with_reducible refine (selvageref10_line.calls k1 ((rd_T53 l0 x6_1).f1) true _ A9.out).mono ?_); rintro e w' ⟨rfl, ⟨nd, rfl⟩⟩) | (go_at_call 68; (with_reducible refine (selvageref10_old.calls ((rd_T53 l0 x6_1).f0) ((rd_T53 l0 x6_1).f1) false _ A11.out).mono ?_); rintro e w43 ⟨rfl, hb⟩; have n0_ := Aside0.mk (blk_below (g := gb129) (o := .cells #[.int .i64 ((rd_T53 l0 x6_1).f0), .string ((rd_T53 l0 x6_1).f1)] 53 (0, 0)) (bkUp BK129.out) hb); have n1_ := Aside0.mk (below_step (belPut) hb); clear BK129 HB; have BK129 := n0_; have HB := n1_; clear n0_ n1_; (try clear hb); (try clear hb2); (try clear hk); (try clear hi); have hcz44_0 : w43.cell? ⟨gb129, 0, none⟩ = some (.int .i64 ((rd_T53 l0 x6_1).f0)) := (blk_cell BK129.out 0).trans rfl; have hcz44_1 : w43.cell? ⟨gb129, 1, none⟩ = some (.string ((rd_T53 l0 x6_1).f1)) := (blk_cell BK129.out 1).trans rfl; have hfz44_0 := blk_frozen BK129.out 0; have hfz44_1 := blk_frozen BK129.out 1) | (go_at_call 69; (with_reducible refine (selvageref10_fresh.calls ((rd_T53 l0 x6_1).f0) ((rd_T53 l0 x6_1).f1) false _ A32.out).mono ?_); rintro e w45 ⟨rfl, hb⟩; have n0_ := Aside0.mk (blk_below (g := gb129) (o := .cells #[.int .i64 ((rd_T53 l0 x6_1).f0), .string ((rd_T53 l0 x6_1).f1)] 53 (0, 0)) (bkUp BK129.out) hb); have n1_ := Aside0.mk (below_step (belPut) hb); clear BK129 HB; have BK129 := n0_; have HB := n1_; clear n0_ n1_; (try clear hb); (try clear hb2); (try clear hk); (try clear hi)))
      go_meet
      case rel => exact ⟨_, (false), eqNow, H', ⟨by have := HK1.out; first | omega | exact Nat.le_refl _⟩, ⟨by exact bkUp BK129.out⟩, ⟨belPut⟩⟩
     subst c12
     have H1 : (if x3_1 = true then (selvageref10_rows.j1 k1 l0 x3_1 x4_1 x5_1 x6_1 true ((rd_T53 l0 x6_1).f0) ((rd_T53 l0 x6_1).f1)) else ((selvageref10_fresh.f ((rd_T53 l0 x6_1).f0) ((rd_T53 l0 x6_1).f1)).bind fun t133 => (if t133 = true then (selvageref10_rows.j1 k1 l0 x3_1 x4_1 x5_1 x6_1 x4_1 ((rd_T53 l0 x6_1).f0) ((rd_T53 l0 x6_1).f1)) else (selvageref10_rows.j1 k1 l0 x3_1 x4_1 x5_1 x6_1 false ((rd_T53 l0 x6_1).f0) ((rd_T53 l0 x6_1).f1))))) = some r := by rw [if_pos rfl] at H; exact H
     clear H
     have H := H1
     clear H1
     by_cases c13 : x3_1 = true
     ·subst c13
      have H1 : (selvageref10_rows.j1 k1 l0 true x4_1 x5_1 x6_1 true ((rd_T53 l0 x6_1).f0) ((rd_T53 l0 x6_1).f1)) = some r := by rw [if_pos rfl] at H; exact H
      clear H
      have H := H1
      clear H1
      have H' := Aside0.mk H
      clear H
      have hcz14_0 : w5.cell? ⟨gb129, 0, none⟩ = some (.int .i64 0) := (blk_cell BK129.out 0).trans rfl
      have hcz14_1 : w5.cell? ⟨gb129, 1, none⟩ = some (.string (⟨#[]⟩ : ByteArray)) := (blk_cell BK129.out 1).trans rfl
      have hfz14_0 := blk_frozen BK129.out 0
      have hfz14_1 := blk_frozen BK129.out 1
      go_wp2_with (first | ((with_reducible refine gate_callee (f := 68) rfl ?_); refine goesL_ (some 20) rfl rfl Tryz.func68 (by kernel_rfl) rfl #[.agg #[.int .i64 ((rd_T53 l0 x6_1).f0), .string ((rd_T53 l0 x6_1).f1)]] rfl argsOk ?_; (with_reducible refine (selvageref10_old.calls ((rd_T53 l0 x6_1).f0) ((rd_T53 l0 x6_1).f1) true _ A7.out).mono ?_); rintro e w15 ⟨rfl, hb⟩; refine ⟨_, rfl, ?_⟩; have n0_ := Aside0.mk (blk_below (g := gb129) (o := .cells #[.int .i64 ((rd_T53 l0 x6_1).f0), .string ((rd_T53 l0 x6_1).f1)] 53 (0, 0)) (by refine bkUp ?_; refine blk_put (cs := #[.int .i64 ((rd_T53 l0 x6_1).f0), .string (⟨#[]⟩ : ByteArray)]) ?_ 1 _ rfl; refine bkUp ?_; refine blk_put (cs := #[.int .i64 0, .string (⟨#[]⟩ : ByteArray)]) ?_ 0 _ rfl; exact bkUp BK129.out) hb); have n1_ := Aside0.mk (below_step (belPut) hb); clear BK129 HB; have BK129 := n0_; have HB := n1_; clear n0_ n1_; (try clear hb); (try clear hb2); (try clear hk); (try clear hi); have hcz16_0 : w15.cell? ⟨gb129, 0, none⟩ = some (.int .i64 ((rd_T53 l0 x6_1).f0)) := (blk_cell BK129.out 0).trans rfl; have hcz16_1 : w15.cell? ⟨gb129, 1, none⟩ = some (.string ((rd_T53 l0 x6_1).f1)) := (blk_cell BK129.out 1).trans rfl; have hfz16_0 := blk_frozen BK129.out 0; have hfz16_1 := blk_frozen BK129.out 1) | (go_at_call 88; (with_reducible refine (selvageref10_line.calls k1 ((rd_T53 l0 x6_1).f1) true _ A9.out).mono ?_); rintro e w' ⟨rfl, ⟨nd, rfl⟩⟩) | (go_at_call 68; (with_reducible refine (selvageref10_old.calls ((rd_T53 l0 x6_1).f0) ((rd_T53 l0 x6_1).f1) true _ A11.out).mono ?_); rintro e w17 ⟨rfl, hb⟩; have n0_ := Aside0.mk (blk_below (g := gb129) (o := .cells #[.int .i64 ((rd_T53 l0 x6_1).f0), .string ((rd_T53 l0 x6_1).f1)] 53 (0, 0)) (bkUp BK129.out) hb); have n1_ := Aside0.mk (below_step (belPut) hb); clear BK129 HB; have BK129 := n0_; have HB := n1_; clear n0_ n1_; (try clear hb); (try clear hb2); (try clear hk); (try clear hi)))
      go_meet
      case rel => exact ⟨_, (true), eqNow, H', ⟨by have := HK1.out; first | omega | exact Nat.le_refl _⟩, ⟨by exact bkUp BK129.out⟩, ⟨belPut⟩⟩
     replace c13 := Bool.eq_false_iff.mpr c13
     subst c13
     have H1 : ((selvageref10_fresh.f ((rd_T53 l0 x6_1).f0) ((rd_T53 l0 x6_1).f1)).bind fun t133 => (if t133 = true then (selvageref10_rows.j1 k1 l0 false x4_1 x5_1 x6_1 x4_1 ((rd_T53 l0 x6_1).f0) ((rd_T53 l0 x6_1).f1)) else (selvageref10_rows.j1 k1 l0 false x4_1 x5_1 x6_1 false ((rd_T53 l0 x6_1).f0) ((rd_T53 l0 x6_1).f1)))) = some r := by rw [if_neg (show ¬ (false = true) by decide)] at H; exact H
     clear H
     have H := H1
     clear H1
     replace H := Option.bind_eq_some_iff.mp H
     obtain ⟨t133, A180, H⟩ := H
     replace H : (if t133 = true then (selvageref10_rows.j1 k1 l0 false x4_1 x5_1 x6_1 x4_1 ((rd_T53 l0 x6_1).f0) ((rd_T53 l0 x6_1).f1)) else (selvageref10_rows.j1 k1 l0 false x4_1 x5_1 x6_1 false ((rd_T53 l0 x6_1).f0) ((rd_T53 l0 x6_1).f1))) = some r := H
     have A18 := Aside0.mk A180
     clear A180
     by_cases c19 : t133 = true
     ·subst c19
      have H1 : (selvageref10_rows.j1 k1 l0 false x4_1 x5_1 x6_1 x4_1 ((rd_T53 l0 x6_1).f0) ((rd_T53 l0 x6_1).f1)) = some r := by rw [if_pos rfl] at H; exact H
      clear H
      have H := H1
      clear H1
      have H' := Aside0.mk H
      clear H
      have hcz20_0 : w5.cell? ⟨gb129, 0, none⟩ = some (.int .i64 0) := (blk_cell BK129.out 0).trans rfl
      have hcz20_1 : w5.cell? ⟨gb129, 1, none⟩ = some (.string (⟨#[]⟩ : ByteArray)) := (blk_cell BK129.out 1).trans rfl
      have hfz20_0 := blk_frozen BK129.out 0
      have hfz20_1 := blk_frozen BK129.out 1
      go_wp2_with (first | ((with_reducible refine gate_callee (f := 68) rfl ?_); refine goesL_ (some 20) rfl rfl Tryz.func68 (by kernel_rfl) rfl #[.agg #[.int .i64 ((rd_T53 l0 x6_1).f0), .string ((rd_T53 l0 x6_1).f1)]] rfl argsOk ?_; (with_reducible refine (selvageref10_old.calls ((rd_T53 l0 x6_1).f0) ((rd_T53 l0 x6_1).f1) true _ A7.out).mono ?_); rintro e w21 ⟨rfl, hb⟩; refine ⟨_, rfl, ?_⟩; have n0_ := Aside0.mk (blk_below (g := gb129) (o := .cells #[.int .i64 ((rd_T53 l0 x6_1).f0), .string ((rd_T53 l0 x6_1).f1)] 53 (0, 0)) (by refine bkUp ?_; refine blk_put (cs := #[.int .i64 ((rd_T53 l0 x6_1).f0), .string (⟨#[]⟩ : ByteArray)]) ?_ 1 _ rfl; refine bkUp ?_; refine blk_put (cs := #[.int .i64 0, .string (⟨#[]⟩ : ByteArray)]) ?_ 0 _ rfl; exact bkUp BK129.out) hb); have n1_ := Aside0.mk (below_step (belPut) hb); clear BK129 HB; have BK129 := n0_; have HB := n1_; clear n0_ n1_; (try clear hb); (try clear hb2); (try clear hk); (try clear hi); have hcz22_0 : w21.cell? ⟨gb129, 0, none⟩ = some (.int .i64 ((rd_T53 l0 x6_1).f0)) := (blk_cell BK129.out 0).trans rfl; have hcz22_1 : w21.cell? ⟨gb129, 1, none⟩ = some (.string ((rd_T53 l0 x6_1).f1)) := (blk_cell BK129.out 1).trans rfl; have hfz22_0 := blk_frozen BK129.out 0; have hfz22_1 := blk_frozen BK129.out 1) | (go_at_call 88; (with_reducible refine (selvageref10_line.calls k1 ((rd_T53 l0 x6_1).f1) true _ A9.out).mono ?_); rintro e w' ⟨rfl, ⟨nd, rfl⟩⟩) | (go_at_call 68; (with_reducible refine (selvageref10_old.calls ((rd_T53 l0 x6_1).f0) ((rd_T53 l0 x6_1).f1) true _ A11.out).mono ?_); rintro e w23 ⟨rfl, hb⟩; have n0_ := Aside0.mk (blk_below (g := gb129) (o := .cells #[.int .i64 ((rd_T53 l0 x6_1).f0), .string ((rd_T53 l0 x6_1).f1)] 53 (0, 0)) (bkUp BK129.out) hb); have n1_ := Aside0.mk (below_step (belPut) hb); clear BK129 HB; have BK129 := n0_; have HB := n1_; clear n0_ n1_; (try clear hb); (try clear hb2); (try clear hk); (try clear hi); have hcz24_0 : w23.cell? ⟨gb129, 0, none⟩ = some (.int .i64 ((rd_T53 l0 x6_1).f0)) := (blk_cell BK129.out 0).trans rfl; have hcz24_1 : w23.cell? ⟨gb129, 1, none⟩ = some (.string ((rd_T53 l0 x6_1).f1)) := (blk_cell BK129.out 1).trans rfl; have hfz24_0 := blk_frozen BK129.out 0; have hfz24_1 := blk_frozen BK129.out 1) | (go_at_call 69; (with_reducible refine (selvageref10_fresh.calls ((rd_T53 l0 x6_1).f0) ((rd_T53 l0 x6_1).f1) true _ A18.out).mono ?_); rintro e w25 ⟨rfl, hb⟩; have n0_ := Aside0.mk (blk_below (g := gb129) (o := .cells #[.int .i64 ((rd_T53 l0 x6_1).f0), .string ((rd_T53 l0 x6_1).f1)] 53 (0, 0)) (bkUp BK129.out) hb); have n1_ := Aside0.mk (below_step (belPut) hb); clear BK129 HB; have BK129 := n0_; have HB := n1_; clear n0_ n1_; (try clear hb); (try clear hb2); (try clear hk); (try clear hi)))
      go_meet
      case rel => exact ⟨_, (x4_1), eqNow, H', ⟨by have := HK1.out; first | omega | exact Nat.le_refl _⟩, ⟨by exact bkUp BK129.out⟩, ⟨belPut⟩⟩
     replace c19 := Bool.eq_false_iff.mpr c19
     subst c19
     have H1 : (selvageref10_rows.j1 k1 l0 false x4_1 x5_1 x6_1 false ((rd_T53 l0 x6_1).f0) ((rd_T53 l0 x6_1).f1)) = some r := by rw [if_neg (show ¬ (false = true) by decide)] at H; exact H
     clear H
     have H := H1
     clear H1
     have H' := Aside0.mk H
     clear H
     have hcz26_0 : w5.cell? ⟨gb129, 0, none⟩ = some (.int .i64 0) := (blk_cell BK129.out 0).trans rfl
     have hcz26_1 : w5.cell? ⟨gb129, 1, none⟩ = some (.string (⟨#[]⟩ : ByteArray)) := (blk_cell BK129.out 1).trans rfl
     have hfz26_0 := blk_frozen BK129.out 0
     have hfz26_1 := blk_frozen BK129.out 1
     go_wp2_with (first | ((with_reducible refine gate_callee (f := 68) rfl ?_); refine goesL_ (some 20) rfl rfl Tryz.func68 (by kernel_rfl) rfl #[.agg #[.int .i64 ((rd_T53 l0 x6_1).f0), .string ((rd_T53 l0 x6_1).f1)]] rfl argsOk ?_; (with_reducible refine (selvageref10_old.calls ((rd_T53 l0 x6_1).f0) ((rd_T53 l0 x6_1).f1) true _ A7.out).mono ?_); rintro e w27 ⟨rfl, hb⟩; refine ⟨_, rfl, ?_⟩; have n0_ := Aside0.mk (blk_below (g := gb129) (o := .cells #[.int .i64 ((rd_T53 l0 x6_1).f0), .string ((rd_T53 l0 x6_1).f1)] 53 (0, 0)) (by refine bkUp ?_; refine blk_put (cs := #[.int .i64 ((rd_T53 l0 x6_1).f0), .string (⟨#[]⟩ : ByteArray)]) ?_ 1 _ rfl; refine bkUp ?_; refine blk_put (cs := #[.int .i64 0, .string (⟨#[]⟩ : ByteArray)]) ?_ 0 _ rfl; exact bkUp BK129.out) hb); have n1_ := Aside0.mk (below_step (belPut) hb); clear BK129 HB; have BK129 := n0_; have HB := n1_; clear n0_ n1_; (try clear hb); (try clear hb2); (try clear hk); (try clear hi); have hcz28_0 : w27.cell? ⟨gb129, 0, none⟩ = some (.int .i64 ((rd_T53 l0 x6_1).f0)) := (blk_cell BK129.out 0).trans rfl; have hcz28_1 : w27.cell? ⟨gb129, 1, none⟩ = some (.string ((rd_T53 l0 x6_1).f1)) := (blk_cell BK129.out 1).trans rfl; have hfz28_0 := blk_frozen BK129.out 0; have hfz28_1 := blk_frozen BK129.out 1) | (go_at_call 88; (with_reducible refine (selvageref10_line.calls k1 ((rd_T53 l0 x6_1).f1) true _ A9.out).mono ?_); rintro e w' ⟨rfl, ⟨nd, rfl⟩⟩) | (go_at_call 68; (with_reducible refine (selvageref10_old.calls ((rd_T53 l0 x6_1).f0) ((rd_T53 l0 x6_1).f1) true _ A11.out).mono ?_); rintro e w29 ⟨rfl, hb⟩; have n0_ := Aside0.mk (blk_below (g := gb129) (o := .cells #[.int .i64 ((rd_T53 l0 x6_1).f0), .string ((rd_T53 l0 x6_1).f1)] 53 (0, 0)) (bkUp BK129.out) hb); have n1_ := Aside0.mk (below_step (belPut) hb); clear BK129 HB; have BK129 := n0_; have HB := n1_; clear n0_ n1_; (try clear hb); (try clear hb2); (try clear hk); (try clear hi); have hcz30_0 : w29.cell? ⟨gb129, 0, none⟩ = some (.int .i64 ((rd_T53 l0 x6_1).f0)) := (blk_cell BK129.out 0).trans rfl; have hcz30_1 : w29.cell? ⟨gb129, 1, none⟩ = some (.string ((rd_T53 l0 x6_1).f1)) := (blk_cell BK129.out 1).trans rfl; have hfz30_0 := blk_frozen BK129.out 0; have hfz30_1 := blk_frozen BK129.out 1) | (go_at_call 69; (with_reducible refine (selvageref10_fresh.calls ((rd_T53 l0 x6_1).f0) ((rd_T53 l0 x6_1).f1) false _ A18.out).mono ?_); rintro e w31 ⟨rfl, hb⟩; have n0_ := Aside0.mk (blk_below (g := gb129) (o := .cells #[.int .i64 ((rd_T53 l0 x6_1).f0), .string ((rd_T53 l0 x6_1).f1)] 53 (0, 0)) (bkUp BK129.out) hb); have n1_ := Aside0.mk (below_step (belPut) hb); clear BK129 HB; have BK129 := n0_; have HB := n1_; clear n0_ n1_; (try clear hb); (try clear hb2); (try clear hk); (try clear hi)))
     go_meet
     case rel => exact ⟨_, (false), eqNow, H', ⟨by have := HK1.out; first | omega | exact Nat.le_refl _⟩, ⟨by exact bkUp BK129.out⟩, ⟨belPut⟩⟩
    replace c8 := Bool.eq_false_iff.mpr c8
    subst c8
    have H1 : ((selvageref10_fresh.f ((rd_T53 l0 x6_1).f0) ((rd_T53 l0 x6_1).f1)).bind fun t135 => (if t135 = true then ((selvageref10_line.f k1 ((rd_T53 l0 x6_1).f1)).bind fun t136 => (if t136 = true then ((selvageref10_old.f ((rd_T53 l0 x6_1).f0) ((rd_T53 l0 x6_1).f1)).bind fun t137 => (if t137 = true then (if x3_1 = true then (selvageref10_rows.j1 k1 l0 x3_1 x4_1 x5_1 x6_1 true ((rd_T53 l0 x6_1).f0) ((rd_T53 l0 x6_1).f1)) else ((selvageref10_fresh.f ((rd_T53 l0 x6_1).f0) ((rd_T53 l0 x6_1).f1)).bind fun t138 => (if t138 = true then (selvageref10_rows.j1 k1 l0 x3_1 x4_1 x5_1 x6_1 x4_1 ((rd_T53 l0 x6_1).f0) ((rd_T53 l0 x6_1).f1)) else (selvageref10_rows.j1 k1 l0 x3_1 x4_1 x5_1 x6_1 false ((rd_T53 l0 x6_1).f0) ((rd_T53 l0 x6_1).f1))))) else ((selvageref10_fresh.f ((rd_T53 l0 x6_1).f0) ((rd_T53 l0 x6_1).f1)).bind fun t139 => (if t139 = true then (selvageref10_rows.j1 k1 l0 x3_1 x4_1 x5_1 x6_1 x4_1 ((rd_T53 l0 x6_1).f0) ((rd_T53 l0 x6_1).f1)) else (selvageref10_rows.j1 k1 l0 x3_1 x4_1 x5_1 x6_1 false ((rd_T53 l0 x6_1).f0) ((rd_T53 l0 x6_1).f1)))))) else (selvageref10_rows.j1 k1 l0 x3_1 x4_1 x5_1 x6_1 true ((rd_T53 l0 x6_1).f0) ((rd_T53 l0 x6_1).f1)))) else (selvageref10_rows.j1 k1 l0 x3_1 x4_1 x5_1 x6_1 true ((rd_T53 l0 x6_1).f0) ((rd_T53 l0 x6_1).f1)))) = some r := by rw [if_neg (show ¬ (false = true) by decide)] at H; exact H
    clear H
    have H := H1
    clear H1
    replace H := Option.bind_eq_some_iff.mp H
    obtain ⟨t135, A490, H⟩ := H
    replace H : (if t135 = true then ((selvageref10_line.f k1 ((rd_T53 l0 x6_1).f1)).bind fun t136 => (if t136 = true then ((selvageref10_old.f ((rd_T53 l0 x6_1).f0) ((rd_T53 l0 x6_1).f1)).bind fun t137 => (if t137 = true then (if x3_1 = true then (selvageref10_rows.j1 k1 l0 x3_1 x4_1 x5_1 x6_1 true ((rd_T53 l0 x6_1).f0) ((rd_T53 l0 x6_1).f1)) else ((selvageref10_fresh.f ((rd_T53 l0 x6_1).f0) ((rd_T53 l0 x6_1).f1)).bind fun t138 => (if t138 = true then (selvageref10_rows.j1 k1 l0 x3_1 x4_1 x5_1 x6_1 x4_1 ((rd_T53 l0 x6_1).f0) ((rd_T53 l0 x6_1).f1)) else (selvageref10_rows.j1 k1 l0 x3_1 x4_1 x5_1 x6_1 false ((rd_T53 l0 x6_1).f0) ((rd_T53 l0 x6_1).f1))))) else ((selvageref10_fresh.f ((rd_T53 l0 x6_1).f0) ((rd_T53 l0 x6_1).f1)).bind fun t139 => (if t139 = true then (selvageref10_rows.j1 k1 l0 x3_1 x4_1 x5_1 x6_1 x4_1 ((rd_T53 l0 x6_1).f0) ((rd_T53 l0 x6_1).f1)) else (selvageref10_rows.j1 k1 l0 x3_1 x4_1 x5_1 x6_1 false ((rd_T53 l0 x6_1).f0) ((rd_T53 l0 x6_1).f1)))))) else (selvageref10_rows.j1 k1 l0 x3_1 x4_1 x5_1 x6_1 true ((rd_T53 l0 x6_1).f0) ((rd_T53 l0 x6_1).f1)))) else (selvageref10_rows.j1 k1 l0 x3_1 x4_1 x5_1 x6_1 true ((rd_T53 l0 x6_1).f0) ((rd_T53 l0 x6_1).f1))) = some r := H
    have A49 := Aside0.mk A490
    clear A490
    by_cases c50 : t135 = true
    rotate_left
    ·replace c50 := Bool.eq_false_iff.mpr c50
     subst c50
     have H1 : (selvageref10_rows.j1 k1 l0 x3_1 x4_1 x5_1 x6_1 true ((rd_T53 l0 x6_1).f0) ((rd_T53 l0 x6_1).f1)) = some r := by rw [if_neg (show ¬ (false = true) by decide)] at H; exact H
     clear H
     have H := H1
     clear H1
     have H' := Aside0.mk H
     clear H
     have hcz103_0 : w5.cell? ⟨gb129, 0, none⟩ = some (.int .i64 0) := (blk_cell BK129.out 0).trans rfl
     have hcz103_1 : w5.cell? ⟨gb129, 1, none⟩ = some (.string (⟨#[]⟩ : ByteArray)) := (blk_cell BK129.out 1).trans rfl
     have hfz103_0 := blk_frozen BK129.out 0
     have hfz103_1 := blk_frozen BK129.out 1
     go_wp2_with (first | ((with_reducible refine gate_callee (f := 68) rfl ?_); refine goesL_ (some 20) rfl rfl Tryz.func68 (by kernel_rfl) rfl #[.agg #[.int .i64 ((rd_T53 l0 x6_1).f0), .string ((rd_T53 l0 x6_1).f1)]] rfl argsOk ?_; (with_reducible refine (selvageref10_old.calls ((rd_T53 l0 x6_1).f0) ((rd_T53 l0 x6_1).f1) false _ A7.out).mono ?_); rintro e w104 ⟨rfl, hb⟩; refine ⟨_, rfl, ?_⟩; have n0_ := Aside0.mk (blk_below (g := gb129) (o := .cells #[.int .i64 ((rd_T53 l0 x6_1).f0), .string ((rd_T53 l0 x6_1).f1)] 53 (0, 0)) (by refine bkUp ?_; refine blk_put (cs := #[.int .i64 ((rd_T53 l0 x6_1).f0), .string (⟨#[]⟩ : ByteArray)]) ?_ 1 _ rfl; refine bkUp ?_; refine blk_put (cs := #[.int .i64 0, .string (⟨#[]⟩ : ByteArray)]) ?_ 0 _ rfl; exact bkUp BK129.out) hb); have n1_ := Aside0.mk (below_step (belPut) hb); clear BK129 HB; have BK129 := n0_; have HB := n1_; clear n0_ n1_; (try clear hb); (try clear hb2); (try clear hk); (try clear hi); have hcz105_0 : w104.cell? ⟨gb129, 0, none⟩ = some (.int .i64 ((rd_T53 l0 x6_1).f0)) := (blk_cell BK129.out 0).trans rfl; have hcz105_1 : w104.cell? ⟨gb129, 1, none⟩ = some (.string ((rd_T53 l0 x6_1).f1)) := (blk_cell BK129.out 1).trans rfl; have hfz105_0 := blk_frozen BK129.out 0; have hfz105_1 := blk_frozen BK129.out 1) | (go_at_call 69; (with_reducible refine (selvageref10_fresh.calls ((rd_T53 l0 x6_1).f0) ((rd_T53 l0 x6_1).f1) false _ A49.out).mono ?_); rintro e w106 ⟨rfl, hb⟩; have n0_ := Aside0.mk (blk_below (g := gb129) (o := .cells #[.int .i64 ((rd_T53 l0 x6_1).f0), .string ((rd_T53 l0 x6_1).f1)] 53 (0, 0)) (bkUp BK129.out) hb); have n1_ := Aside0.mk (below_step (belPut) hb); clear BK129 HB; have BK129 := n0_; have HB := n1_; clear n0_ n1_; (try clear hb); (try clear hb2); (try clear hk); (try clear hi)))
     go_meet
     case rel => exact ⟨_, (true), eqNow, H', ⟨by have := HK1.out; first | omega | exact Nat.le_refl _⟩, ⟨by exact bkUp BK129.out⟩, ⟨belPut⟩⟩
    subst c50
    have H1 : ((selvageref10_line.f k1 ((rd_T53 l0 x6_1).f1)).bind fun t136 => (if t136 = true then ((selvageref10_old.f ((rd_T53 l0 x6_1).f0) ((rd_T53 l0 x6_1).f1)).bind fun t137 => (if t137 = true then (if x3_1 = true then (selvageref10_rows.j1 k1 l0 x3_1 x4_1 x5_1 x6_1 true ((rd_T53 l0 x6_1).f0) ((rd_T53 l0 x6_1).f1)) else ((selvageref10_fresh.f ((rd_T53 l0 x6_1).f0) ((rd_T53 l0 x6_1).f1)).bind fun t138 => (if t138 = true then (selvageref10_rows.j1 k1 l0 x3_1 x4_1 x5_1 x6_1 x4_1 ((rd_T53 l0 x6_1).f0) ((rd_T53 l0 x6_1).f1)) else (selvageref10_rows.j1 k1 l0 x3_1 x4_1 x5_1 x6_1 false ((rd_T53 l0 x6_1).f0) ((rd_T53 l0 x6_1).f1))))) else ((selvageref10_fresh.f ((rd_T53 l0 x6_1).f0) ((rd_T53 l0 x6_1).f1)).bind fun t139 => (if t139 = true then (selvageref10_rows.j1 k1 l0 x3_1 x4_1 x5_1 x6_1 x4_1 ((rd_T53 l0 x6_1).f0) ((rd_T53 l0 x6_1).f1)) else (selvageref10_rows.j1 k1 l0 x3_1 x4_1 x5_1 x6_1 false ((rd_T53 l0 x6_1).f0) ((rd_T53 l0 x6_1).f1)))))) else (selvageref10_rows.j1 k1 l0 x3_1 x4_1 x5_1 x6_1 true ((rd_T53 l0 x6_1).f0) ((rd_T53 l0 x6_1).f1)))) = some r := by rw [if_pos rfl] at H; exact H
    clear H
    have H := H1
    clear H1
    replace H := Option.bind_eq_some_iff.mp H
    obtain ⟨t136, A510, H⟩ := H
    replace H : (if t136 = true then ((selvageref10_old.f ((rd_T53 l0 x6_1).f0) ((rd_T53 l0 x6_1).f1)).bind fun t137 => (if t137 = true then (if x3_1 = true then (selvageref10_rows.j1 k1 l0 x3_1 x4_1 x5_1 x6_1 true ((rd_T53 l0 x6_1).f0) ((rd_T53 l0 x6_1).f1)) else ((selvageref10_fresh.f ((rd_T53 l0 x6_1).f0) ((rd_T53 l0 x6_1).f1)).bind fun t138 => (if t138 = true then (selvageref10_rows.j1 k1 l0 x3_1 x4_1 x5_1 x6_1 x4_1 ((rd_T53 l0 x6_1).f0) ((rd_T53 l0 x6_1).f1)) else (selvageref10_rows.j1 k1 l0 x3_1 x4_1 x5_1 x6_1 false ((rd_T53 l0 x6_1).f0) ((rd_T53 l0 x6_1).f1))))) else ((selvageref10_fresh.f ((rd_T53 l0 x6_1).f0) ((rd_T53 l0 x6_1).f1)).bind fun t139 => (if t139 = true then (selvageref10_rows.j1 k1 l0 x3_1 x4_1 x5_1 x6_1 x4_1 ((rd_T53 l0 x6_1).f0) ((rd_T53 l0 x6_1).f1)) else (selvageref10_rows.j1 k1 l0 x3_1 x4_1 x5_1 x6_1 false ((rd_T53 l0 x6_1).f0) ((rd_T53 l0 x6_1).f1)))))) else (selvageref10_rows.j1 k1 l0 x3_1 x4_1 x5_1 x6_1 true ((rd_T53 l0 x6_1).f0) ((rd_T53 l0 x6_1).f1))) = some r := H
    have A51 := Aside0.mk A510
    clear A510
    by_cases c52 : t136 = true
    rotate_left
    ·replace c52 := Bool.eq_false_iff.mpr c52
     subst c52
     have H1 : (selvageref10_rows.j1 k1 l0 x3_1 x4_1 x5_1 x6_1 true ((rd_T53 l0 x6_1).f0) ((rd_T53 l0 x6_1).f1)) = some r := by rw [if_neg (show ¬ (false = true) by decide)] at H; exact H
     clear H
     have H := H1
     clear H1
     have H' := Aside0.mk H
     clear H
     have hcz98_0 : w5.cell? ⟨gb129, 0, none⟩ = some (.int .i64 0) := (blk_cell BK129.out 0).trans rfl
     have hcz98_1 : w5.cell? ⟨gb129, 1, none⟩ = some (.string (⟨#[]⟩ : ByteArray)) := (blk_cell BK129.out 1).trans rfl
     have hfz98_0 := blk_frozen BK129.out 0
     have hfz98_1 := blk_frozen BK129.out 1
     go_wp2_with (first | ((with_reducible refine gate_callee (f := 68) rfl ?_); refine goesL_ (some 20) rfl rfl Tryz.func68 (by kernel_rfl) rfl #[.agg #[.int .i64 ((rd_T53 l0 x6_1).f0), .string ((rd_T53 l0 x6_1).f1)]] rfl argsOk ?_; (with_reducible refine (selvageref10_old.calls ((rd_T53 l0 x6_1).f0) ((rd_T53 l0 x6_1).f1) false _ A7.out).mono ?_); rintro e w99 ⟨rfl, hb⟩; refine ⟨_, rfl, ?_⟩; have n0_ := Aside0.mk (blk_below (g := gb129) (o := .cells #[.int .i64 ((rd_T53 l0 x6_1).f0), .string ((rd_T53 l0 x6_1).f1)] 53 (0, 0)) (by refine bkUp ?_; refine blk_put (cs := #[.int .i64 ((rd_T53 l0 x6_1).f0), .string (⟨#[]⟩ : ByteArray)]) ?_ 1 _ rfl; refine bkUp ?_; refine blk_put (cs := #[.int .i64 0, .string (⟨#[]⟩ : ByteArray)]) ?_ 0 _ rfl; exact bkUp BK129.out) hb); have n1_ := Aside0.mk (below_step (belPut) hb); clear BK129 HB; have BK129 := n0_; have HB := n1_; clear n0_ n1_; (try clear hb); (try clear hb2); (try clear hk); (try clear hi); have hcz100_0 : w99.cell? ⟨gb129, 0, none⟩ = some (.int .i64 ((rd_T53 l0 x6_1).f0)) := (blk_cell BK129.out 0).trans rfl; have hcz100_1 : w99.cell? ⟨gb129, 1, none⟩ = some (.string ((rd_T53 l0 x6_1).f1)) := (blk_cell BK129.out 1).trans rfl; have hfz100_0 := blk_frozen BK129.out 0; have hfz100_1 := blk_frozen BK129.out 1) | (go_at_call 69; (with_reducible refine (selvageref10_fresh.calls ((rd_T53 l0 x6_1).f0) ((rd_T53 l0 x6_1).f1) true _ A49.out).mono ?_); rintro e w101 ⟨rfl, hb⟩; have n0_ := Aside0.mk (blk_below (g := gb129) (o := .cells #[.int .i64 ((rd_T53 l0 x6_1).f0), .string ((rd_T53 l0 x6_1).f1)] 53 (0, 0)) (bkUp BK129.out) hb); have n1_ := Aside0.mk (below_step (belPut) hb); clear BK129 HB; have BK129 := n0_; have HB := n1_; clear n0_ n1_; (try clear hb); (try clear hb2); (try clear hk); (try clear hi); have hcz102_0 : w101.cell? ⟨gb129, 0, none⟩ = some (.int .i64 ((rd_T53 l0 x6_1).f0)) := (blk_cell BK129.out 0).trans rfl; have hcz102_1 : w101.cell? ⟨gb129, 1, none⟩ = some (.string ((rd_T53 l0 x6_1).f1)) := (blk_cell BK129.out 1).trans rfl; have hfz102_0 := blk_frozen BK129.out 0; have hfz102_1 := blk_frozen BK129.out 1) | (go_at_call 88; (with_reducible refine (selvageref10_line.calls k1 ((rd_T53 l0 x6_1).f1) false _ A51.out).mono ?_); rintro e w' ⟨rfl, ⟨nd, rfl⟩⟩))
     go_meet
     case rel => exact ⟨_, (true), eqNow, H', ⟨by have := HK1.out; first | omega | exact Nat.le_refl _⟩, ⟨by exact bkUp BK129.out⟩, ⟨belPut⟩⟩
    subst c52
    have H1 : ((selvageref10_old.f ((rd_T53 l0 x6_1).f0) ((rd_T53 l0 x6_1).f1)).bind fun t137 => (if t137 = true then (if x3_1 = true then (selvageref10_rows.j1 k1 l0 x3_1 x4_1 x5_1 x6_1 true ((rd_T53 l0 x6_1).f0) ((rd_T53 l0 x6_1).f1)) else ((selvageref10_fresh.f ((rd_T53 l0 x6_1).f0) ((rd_T53 l0 x6_1).f1)).bind fun t138 => (if t138 = true then (selvageref10_rows.j1 k1 l0 x3_1 x4_1 x5_1 x6_1 x4_1 ((rd_T53 l0 x6_1).f0) ((rd_T53 l0 x6_1).f1)) else (selvageref10_rows.j1 k1 l0 x3_1 x4_1 x5_1 x6_1 false ((rd_T53 l0 x6_1).f0) ((rd_T53 l0 x6_1).f1))))) else ((selvageref10_fresh.f ((rd_T53 l0 x6_1).f0) ((rd_T53 l0 x6_1).f1)).bind fun t139 => (if t139 = true then (selvageref10_rows.j1 k1 l0 x3_1 x4_1 x5_1 x6_1 x4_1 ((rd_T53 l0 x6_1).f0) ((rd_T53 l0 x6_1).f1)) else (selvageref10_rows.j1 k1 l0 x3_1 x4_1 x5_1 x6_1 false ((rd_T53 l0 x6_1).f0) ((rd_T53 l0 x6_1).f1)))))) = some r := by rw [if_pos rfl] at H; exact H
    clear H
    have H := H1
    clear H1
    replace H := Option.bind_eq_some_iff.mp H
    obtain ⟨t137, A530, H⟩ := H
    replace H : (if t137 = true then (if x3_1 = true then (selvageref10_rows.j1 k1 l0 x3_1 x4_1 x5_1 x6_1 true ((rd_T53 l0 x6_1).f0) ((rd_T53 l0 x6_1).f1)) else ((selvageref10_fresh.f ((rd_T53 l0 x6_1).f0) ((rd_T53 l0 x6_1).f1)).bind fun t138 => (if t138 = true then (selvageref10_rows.j1 k1 l0 x3_1 x4_1 x5_1 x6_1 x4_1 ((rd_T53 l0 x6_1).f0) ((rd_T53 l0 x6_1).f1)) else (selvageref10_rows.j1 k1 l0 x3_1 x4_1 x5_1 x6_1 false ((rd_T53 l0 x6_1).f0) ((rd_T53 l0 x6_1).f1))))) else ((selvageref10_fresh.f ((rd_T53 l0 x6_1).f0) ((rd_T53 l0 x6_1).f1)).bind fun t139 => (if t139 = true then (selvageref10_rows.j1 k1 l0 x3_1 x4_1 x5_1 x6_1 x4_1 ((rd_T53 l0 x6_1).f0) ((rd_T53 l0 x6_1).f1)) else (selvageref10_rows.j1 k1 l0 x3_1 x4_1 x5_1 x6_1 false ((rd_T53 l0 x6_1).f0) ((rd_T53 l0 x6_1).f1))))) = some r := H
    have A53 := Aside0.mk A530
    clear A530
    by_cases c54 : t137 = true
    rotate_left
    ·replace c54 := Bool.eq_false_iff.mpr c54
     subst c54
     have H1 : ((selvageref10_fresh.f ((rd_T53 l0 x6_1).f0) ((rd_T53 l0 x6_1).f1)).bind fun t139 => (if t139 = true then (selvageref10_rows.j1 k1 l0 x3_1 x4_1 x5_1 x6_1 x4_1 ((rd_T53 l0 x6_1).f0) ((rd_T53 l0 x6_1).f1)) else (selvageref10_rows.j1 k1 l0 x3_1 x4_1 x5_1 x6_1 false ((rd_T53 l0 x6_1).f0) ((rd_T53 l0 x6_1).f1)))) = some r := by rw [if_neg (show ¬ (false = true) by decide)] at H; exact H
     clear H
     have H := H1
     clear H1
     replace H := Option.bind_eq_some_iff.mp H
     obtain ⟨t139, A800, H⟩ := H
     replace H : (if t139 = true then (selvageref10_rows.j1 k1 l0 x3_1 x4_1 x5_1 x6_1 x4_1 ((rd_T53 l0 x6_1).f0) ((rd_T53 l0 x6_1).f1)) else (selvageref10_rows.j1 k1 l0 x3_1 x4_1 x5_1 x6_1 false ((rd_T53 l0 x6_1).f0) ((rd_T53 l0 x6_1).f1))) = some r := H
     have A80 := Aside0.mk A800
     clear A800
     by_cases c81 : t139 = true
     rotate_left
     ·replace c81 := Bool.eq_false_iff.mpr c81
      subst c81
      have H1 : (selvageref10_rows.j1 k1 l0 x3_1 x4_1 x5_1 x6_1 false ((rd_T53 l0 x6_1).f0) ((rd_T53 l0 x6_1).f1)) = some r := by rw [if_neg (show ¬ (false = true) by decide)] at H; exact H
      clear H
      have H := H1
      clear H1
      have H' := Aside0.mk H
      clear H
      have hcz90_0 : w5.cell? ⟨gb129, 0, none⟩ = some (.int .i64 0) := (blk_cell BK129.out 0).trans rfl
      have hcz90_1 : w5.cell? ⟨gb129, 1, none⟩ = some (.string (⟨#[]⟩ : ByteArray)) := (blk_cell BK129.out 1).trans rfl
      have hfz90_0 := blk_frozen BK129.out 0
      have hfz90_1 := blk_frozen BK129.out 1
      exact absurd (A49.out.symm.trans A80.out) (by simp)
     subst c81
     have H1 : (selvageref10_rows.j1 k1 l0 x3_1 x4_1 x5_1 x6_1 x4_1 ((rd_T53 l0 x6_1).f0) ((rd_T53 l0 x6_1).f1)) = some r := by rw [if_pos rfl] at H; exact H
     clear H
     have H := H1
     clear H1
     have H' := Aside0.mk H
     clear H
     have hcz82_0 : w5.cell? ⟨gb129, 0, none⟩ = some (.int .i64 0) := (blk_cell BK129.out 0).trans rfl
     have hcz82_1 : w5.cell? ⟨gb129, 1, none⟩ = some (.string (⟨#[]⟩ : ByteArray)) := (blk_cell BK129.out 1).trans rfl
     have hfz82_0 := blk_frozen BK129.out 0
     have hfz82_1 := blk_frozen BK129.out 1
     go_wp2_with (first | ((with_reducible refine gate_callee (f := 68) rfl ?_); refine goesL_ (some 20) rfl rfl Tryz.func68 (by kernel_rfl) rfl #[.agg #[.int .i64 ((rd_T53 l0 x6_1).f0), .string ((rd_T53 l0 x6_1).f1)]] rfl argsOk ?_; (with_reducible refine (selvageref10_old.calls ((rd_T53 l0 x6_1).f0) ((rd_T53 l0 x6_1).f1) false _ A7.out).mono ?_); rintro e w83 ⟨rfl, hb⟩; refine ⟨_, rfl, ?_⟩; have n0_ := Aside0.mk (blk_below (g := gb129) (o := .cells #[.int .i64 ((rd_T53 l0 x6_1).f0), .string ((rd_T53 l0 x6_1).f1)] 53 (0, 0)) (by refine bkUp ?_; refine blk_put (cs := #[.int .i64 ((rd_T53 l0 x6_1).f0), .string (⟨#[]⟩ : ByteArray)]) ?_ 1 _ rfl; refine bkUp ?_; refine blk_put (cs := #[.int .i64 0, .string (⟨#[]⟩ : ByteArray)]) ?_ 0 _ rfl; exact bkUp BK129.out) hb); have n1_ := Aside0.mk (below_step (belPut) hb); clear BK129 HB; have BK129 := n0_; have HB := n1_; clear n0_ n1_; (try clear hb); (try clear hb2); (try clear hk); (try clear hi); have hcz84_0 : w83.cell? ⟨gb129, 0, none⟩ = some (.int .i64 ((rd_T53 l0 x6_1).f0)) := (blk_cell BK129.out 0).trans rfl; have hcz84_1 : w83.cell? ⟨gb129, 1, none⟩ = some (.string ((rd_T53 l0 x6_1).f1)) := (blk_cell BK129.out 1).trans rfl; have hfz84_0 := blk_frozen BK129.out 0; have hfz84_1 := blk_frozen BK129.out 1) | (go_at_call 69; (with_reducible refine (selvageref10_fresh.calls ((rd_T53 l0 x6_1).f0) ((rd_T53 l0 x6_1).f1) true _ A49.out).mono ?_); rintro e w85 ⟨rfl, hb⟩; have n0_ := Aside0.mk (blk_below (g := gb129) (o := .cells #[.int .i64 ((rd_T53 l0 x6_1).f0), .string ((rd_T53 l0 x6_1).f1)] 53 (0, 0)) (bkUp BK129.out) hb); have n1_ := Aside0.mk (below_step (belPut) hb); clear BK129 HB; have BK129 := n0_; have HB := n1_; clear n0_ n1_; (try clear hb); (try clear hb2); (try clear hk); (try clear hi); have hcz86_0 : w85.cell? ⟨gb129, 0, none⟩ = some (.int .i64 ((rd_T53 l0 x6_1).f0)) := (blk_cell BK129.out 0).trans rfl; have hcz86_1 : w85.cell? ⟨gb129, 1, none⟩ = some (.string ((rd_T53 l0 x6_1).f1)) := (blk_cell BK129.out 1).trans rfl; have hfz86_0 := blk_frozen BK129.out 0; have hfz86_1 := blk_frozen BK129.out 1) | (go_at_call 88; (with_reducible refine (selvageref10_line.calls k1 ((rd_T53 l0 x6_1).f1) true _ A51.out).mono ?_); rintro e w' ⟨rfl, ⟨nd, rfl⟩⟩) | (go_at_call 68; (with_reducible refine (selvageref10_old.calls ((rd_T53 l0 x6_1).f0) ((rd_T53 l0 x6_1).f1) false _ A53.out).mono ?_); rintro e w87 ⟨rfl, hb⟩; have n0_ := Aside0.mk (blk_below (g := gb129) (o := .cells #[.int .i64 ((rd_T53 l0 x6_1).f0), .string ((rd_T53 l0 x6_1).f1)] 53 (0, 0)) (bkUp BK129.out) hb); have n1_ := Aside0.mk (below_step (belPut) hb); clear BK129 HB; have BK129 := n0_; have HB := n1_; clear n0_ n1_; (try clear hb); (try clear hb2); (try clear hk); (try clear hi); have hcz88_0 : w87.cell? ⟨gb129, 0, none⟩ = some (.int .i64 ((rd_T53 l0 x6_1).f0)) := (blk_cell BK129.out 0).trans rfl; have hcz88_1 : w87.cell? ⟨gb129, 1, none⟩ = some (.string ((rd_T53 l0 x6_1).f1)) := (blk_cell BK129.out 1).trans rfl; have hfz88_0 := blk_frozen BK129.out 0; have hfz88_1 := blk_frozen BK129.out 1))
     go_meet
     case rel => exact ⟨_, (x4_1), eqNow, H', ⟨by have := HK1.out; first | omega | exact Nat.le_refl _⟩, ⟨by exact bkUp BK129.out⟩, ⟨belPut⟩⟩
    subst c54
    have H1 : (if x3_1 = true then (selvageref10_rows.j1 k1 l0 x3_1 x4_1 x5_1 x6_1 true ((rd_T53 l0 x6_1).f0) ((rd_T53 l0 x6_1).f1)) else ((selvageref10_fresh.f ((rd_T53 l0 x6_1).f0) ((rd_T53 l0 x6_1).f1)).bind fun t138 => (if t138 = true then (selvageref10_rows.j1 k1 l0 x3_1 x4_1 x5_1 x6_1 x4_1 ((rd_T53 l0 x6_1).f0) ((rd_T53 l0 x6_1).f1)) else (selvageref10_rows.j1 k1 l0 x3_1 x4_1 x5_1 x6_1 false ((rd_T53 l0 x6_1).f0) ((rd_T53 l0 x6_1).f1))))) = some r := by rw [if_pos rfl] at H; exact H
    clear H
    have H := H1
    clear H1
    by_cases c55 : x3_1 = true
    ·subst c55
     have H1 : (selvageref10_rows.j1 k1 l0 true x4_1 x5_1 x6_1 true ((rd_T53 l0 x6_1).f0) ((rd_T53 l0 x6_1).f1)) = some r := by rw [if_pos rfl] at H; exact H
     clear H
     have H := H1
     clear H1
     have H' := Aside0.mk H
     clear H
     have hcz56_0 : w5.cell? ⟨gb129, 0, none⟩ = some (.int .i64 0) := (blk_cell BK129.out 0).trans rfl
     have hcz56_1 : w5.cell? ⟨gb129, 1, none⟩ = some (.string (⟨#[]⟩ : ByteArray)) := (blk_cell BK129.out 1).trans rfl
     have hfz56_0 := blk_frozen BK129.out 0
     have hfz56_1 := blk_frozen BK129.out 1
     go_wp2_with (first | ((with_reducible refine gate_callee (f := 68) rfl ?_); refine goesL_ (some 20) rfl rfl Tryz.func68 (by kernel_rfl) rfl #[.agg #[.int .i64 ((rd_T53 l0 x6_1).f0), .string ((rd_T53 l0 x6_1).f1)]] rfl argsOk ?_; (with_reducible refine (selvageref10_old.calls ((rd_T53 l0 x6_1).f0) ((rd_T53 l0 x6_1).f1) false _ A7.out).mono ?_); rintro e w57 ⟨rfl, hb⟩; refine ⟨_, rfl, ?_⟩; have n0_ := Aside0.mk (blk_below (g := gb129) (o := .cells #[.int .i64 ((rd_T53 l0 x6_1).f0), .string ((rd_T53 l0 x6_1).f1)] 53 (0, 0)) (by refine bkUp ?_; refine blk_put (cs := #[.int .i64 ((rd_T53 l0 x6_1).f0), .string (⟨#[]⟩ : ByteArray)]) ?_ 1 _ rfl; refine bkUp ?_; refine blk_put (cs := #[.int .i64 0, .string (⟨#[]⟩ : ByteArray)]) ?_ 0 _ rfl; exact bkUp BK129.out) hb); have n1_ := Aside0.mk (below_step (belPut) hb); clear BK129 HB; have BK129 := n0_; have HB := n1_; clear n0_ n1_; (try clear hb); (try clear hb2); (try clear hk); (try clear hi); have hcz58_0 : w57.cell? ⟨gb129, 0, none⟩ = some (.int .i64 ((rd_T53 l0 x6_1).f0)) := (blk_cell BK129.out 0).trans rfl; have hcz58_1 : w57.cell? ⟨gb129, 1, none⟩ = some (.string ((rd_T53 l0 x6_1).f1)) := (blk_cell BK129.out 1).trans rfl; have hfz58_0 := blk_frozen BK129.out 0; have hfz58_1 := blk_frozen BK129.out 1) | (go_at_call 69; (with_reducible refine (selvageref10_fresh.calls ((rd_T53 l0 x6_1).f0) ((rd_T53 l0 x6_1).f1) true _ A49.out).mono ?_); rintro e w59 ⟨rfl, hb⟩; have n0_ := Aside0.mk (blk_below (g := gb129) (o := .cells #[.int .i64 ((rd_T53 l0 x6_1).f0), .string ((rd_T53 l0 x6_1).f1)] 53 (0, 0)) (bkUp BK129.out) hb); have n1_ := Aside0.mk (below_step (belPut) hb); clear BK129 HB; have BK129 := n0_; have HB := n1_; clear n0_ n1_; (try clear hb); (try clear hb2); (try clear hk); (try clear hi); have hcz60_0 : w59.cell? ⟨gb129, 0, none⟩ = some (.int .i64 ((rd_T53 l0 x6_1).f0)) := (blk_cell BK129.out 0).trans rfl; have hcz60_1 : w59.cell? ⟨gb129, 1, none⟩ = some (.string ((rd_T53 l0 x6_1).f1)) := (blk_cell BK129.out 1).trans rfl; have hfz60_0 := blk_frozen BK129.out 0; have hfz60_1 := blk_frozen BK129.out 1) | (go_at_call 88; (with_reducible refine (selvageref10_line.calls k1 ((rd_T53 l0 x6_1).f1) true _ A51.out).mono ?_); rintro e w' ⟨rfl, ⟨nd, rfl⟩⟩) | (go_at_call 68; (with_reducible refine (selvageref10_old.calls ((rd_T53 l0 x6_1).f0) ((rd_T53 l0 x6_1).f1) true _ A53.out).mono ?_); rintro e w61 ⟨rfl, hb⟩; have n0_ := Aside0.mk (blk_below (g := gb129) (o := .cells #[.int .i64 ((rd_T53 l0 x6_1).f0), .string ((rd_T53 l0 x6_1).f1)] 53 (0, 0)) (bkUp BK129.out) hb); have n1_ := Aside0.mk (below_step (belPut) hb); clear BK129 HB; have BK129 := n0_; have HB := n1_; clear n0_ n1_; (try clear hb); (try clear hb2); (try clear hk); (try clear hi)))
     go_meet
     case rel => exact ⟨_, (true), eqNow, H', ⟨by have := HK1.out; first | omega | exact Nat.le_refl _⟩, ⟨by exact bkUp BK129.out⟩, ⟨belPut⟩⟩
    replace c55 := Bool.eq_false_iff.mpr c55
    subst c55
    have H1 : ((selvageref10_fresh.f ((rd_T53 l0 x6_1).f0) ((rd_T53 l0 x6_1).f1)).bind fun t138 => (if t138 = true then (selvageref10_rows.j1 k1 l0 false x4_1 x5_1 x6_1 x4_1 ((rd_T53 l0 x6_1).f0) ((rd_T53 l0 x6_1).f1)) else (selvageref10_rows.j1 k1 l0 false x4_1 x5_1 x6_1 false ((rd_T53 l0 x6_1).f0) ((rd_T53 l0 x6_1).f1)))) = some r := by rw [if_neg (show ¬ (false = true) by decide)] at H; exact H
    clear H
    have H := H1
    clear H1
    replace H := Option.bind_eq_some_iff.mp H
    obtain ⟨t138, A620, H⟩ := H
    replace H : (if t138 = true then (selvageref10_rows.j1 k1 l0 false x4_1 x5_1 x6_1 x4_1 ((rd_T53 l0 x6_1).f0) ((rd_T53 l0 x6_1).f1)) else (selvageref10_rows.j1 k1 l0 false x4_1 x5_1 x6_1 false ((rd_T53 l0 x6_1).f0) ((rd_T53 l0 x6_1).f1))) = some r := H
    have A62 := Aside0.mk A620
    clear A620
    by_cases c63 : t138 = true
    rotate_left
    ·replace c63 := Bool.eq_false_iff.mpr c63
     subst c63
     have H1 : (selvageref10_rows.j1 k1 l0 false x4_1 x5_1 x6_1 false ((rd_T53 l0 x6_1).f0) ((rd_T53 l0 x6_1).f1)) = some r := by rw [if_neg (show ¬ (false = true) by decide)] at H; exact H
     clear H
     have H := H1
     clear H1
     have H' := Aside0.mk H
     clear H
     have hcz72_0 : w5.cell? ⟨gb129, 0, none⟩ = some (.int .i64 0) := (blk_cell BK129.out 0).trans rfl
     have hcz72_1 : w5.cell? ⟨gb129, 1, none⟩ = some (.string (⟨#[]⟩ : ByteArray)) := (blk_cell BK129.out 1).trans rfl
     have hfz72_0 := blk_frozen BK129.out 0
     have hfz72_1 := blk_frozen BK129.out 1
     exact absurd (A49.out.symm.trans A62.out) (by simp)
    subst c63
    have H1 : (selvageref10_rows.j1 k1 l0 false x4_1 x5_1 x6_1 x4_1 ((rd_T53 l0 x6_1).f0) ((rd_T53 l0 x6_1).f1)) = some r := by rw [if_pos rfl] at H; exact H
    clear H
    have H := H1
    clear H1
    have H' := Aside0.mk H
    clear H
    have hcz64_0 : w5.cell? ⟨gb129, 0, none⟩ = some (.int .i64 0) := (blk_cell BK129.out 0).trans rfl
    have hcz64_1 : w5.cell? ⟨gb129, 1, none⟩ = some (.string (⟨#[]⟩ : ByteArray)) := (blk_cell BK129.out 1).trans rfl
    have hfz64_0 := blk_frozen BK129.out 0
    have hfz64_1 := blk_frozen BK129.out 1
    go_wp2_with (first | ((with_reducible refine gate_callee (f := 68) rfl ?_); refine goesL_ (some 20) rfl rfl Tryz.func68 (by kernel_rfl) rfl #[.agg #[.int .i64 ((rd_T53 l0 x6_1).f0), .string ((rd_T53 l0 x6_1).f1)]] rfl argsOk ?_; (with_reducible refine (selvageref10_old.calls ((rd_T53 l0 x6_1).f0) ((rd_T53 l0 x6_1).f1) false _ A7.out).mono ?_); rintro e w65 ⟨rfl, hb⟩; refine ⟨_, rfl, ?_⟩; have n0_ := Aside0.mk (blk_below (g := gb129) (o := .cells #[.int .i64 ((rd_T53 l0 x6_1).f0), .string ((rd_T53 l0 x6_1).f1)] 53 (0, 0)) (by refine bkUp ?_; refine blk_put (cs := #[.int .i64 ((rd_T53 l0 x6_1).f0), .string (⟨#[]⟩ : ByteArray)]) ?_ 1 _ rfl; refine bkUp ?_; refine blk_put (cs := #[.int .i64 0, .string (⟨#[]⟩ : ByteArray)]) ?_ 0 _ rfl; exact bkUp BK129.out) hb); have n1_ := Aside0.mk (below_step (belPut) hb); clear BK129 HB; have BK129 := n0_; have HB := n1_; clear n0_ n1_; (try clear hb); (try clear hb2); (try clear hk); (try clear hi); have hcz66_0 : w65.cell? ⟨gb129, 0, none⟩ = some (.int .i64 ((rd_T53 l0 x6_1).f0)) := (blk_cell BK129.out 0).trans rfl; have hcz66_1 : w65.cell? ⟨gb129, 1, none⟩ = some (.string ((rd_T53 l0 x6_1).f1)) := (blk_cell BK129.out 1).trans rfl; have hfz66_0 := blk_frozen BK129.out 0; have hfz66_1 := blk_frozen BK129.out 1) | (go_at_call 69; (with_reducible refine (selvageref10_fresh.calls ((rd_T53 l0 x6_1).f0) ((rd_T53 l0 x6_1).f1) true _ A49.out).mono ?_); rintro e w67 ⟨rfl, hb⟩; have n0_ := Aside0.mk (blk_below (g := gb129) (o := .cells #[.int .i64 ((rd_T53 l0 x6_1).f0), .string ((rd_T53 l0 x6_1).f1)] 53 (0, 0)) (bkUp BK129.out) hb); have n1_ := Aside0.mk (below_step (belPut) hb); clear BK129 HB; have BK129 := n0_; have HB := n1_; clear n0_ n1_; (try clear hb); (try clear hb2); (try clear hk); (try clear hi); have hcz68_0 : w67.cell? ⟨gb129, 0, none⟩ = some (.int .i64 ((rd_T53 l0 x6_1).f0)) := (blk_cell BK129.out 0).trans rfl; have hcz68_1 : w67.cell? ⟨gb129, 1, none⟩ = some (.string ((rd_T53 l0 x6_1).f1)) := (blk_cell BK129.out 1).trans rfl; have hfz68_0 := blk_frozen BK129.out 0; have hfz68_1 := blk_frozen BK129.out 1) | (go_at_call 88; (with_reducible refine (selvageref10_line.calls k1 ((rd_T53 l0 x6_1).f1) true _ A51.out).mono ?_); rintro e w' ⟨rfl, ⟨nd, rfl⟩⟩) | (go_at_call 68; (with_reducible refine (selvageref10_old.calls ((rd_T53 l0 x6_1).f0) ((rd_T53 l0 x6_1).f1) true _ A53.out).mono ?_); rintro e w69 ⟨rfl, hb⟩; have n0_ := Aside0.mk (blk_below (g := gb129) (o := .cells #[.int .i64 ((rd_T53 l0 x6_1).f0), .string ((rd_T53 l0 x6_1).f1)] 53 (0, 0)) (bkUp BK129.out) hb); have n1_ := Aside0.mk (below_step (belPut) hb); clear BK129 HB; have BK129 := n0_; have HB := n1_; clear n0_ n1_; (try clear hb); (try clear hb2); (try clear hk); (try clear hi); have hcz70_0 : w69.cell? ⟨gb129, 0, none⟩ = some (.int .i64 ((rd_T53 l0 x6_1).f0)) := (blk_cell BK129.out 0).trans rfl; have hcz70_1 : w69.cell? ⟨gb129, 1, none⟩ = some (.string ((rd_T53 l0 x6_1).f1)) := (blk_cell BK129.out 1).trans rfl; have hfz70_0 := blk_frozen BK129.out 0; have hfz70_1 := blk_frozen BK129.out 1))
    go_meet
    case rel => exact ⟨_, (x4_1), eqNow, H', ⟨by have := HK1.out; first | omega | exact Nat.le_refl _⟩, ⟨by exact bkUp BK129.out⟩, ⟨belPut⟩⟩
   case rest =>
    clear HC4
    try clear c1
    try clear p1
    try clear q1
    try clear hx1
    try clear c2
    try clear c2b0
    try clear p2
    try clear c3
    try clear c3b0
    try clear c4
    try clear c5
    try clear c6
    try clear c8
    try clear c10
    try clear c12
    try clear p12
    try clear q12
    try clear hx12
    try clear c13
    try clear c19
    try clear c33
    try clear c44
    try clear c50
    try clear c52
    try clear c54
    try clear c55
    try clear c63
    try clear c68
    try clear c81
    try clear hcz100_0 hcz100_1
    try clear hcz102_0 hcz102_1
    try clear hcz103_0 hcz103_1
    try clear hcz105_0 hcz105_1
    try clear hcz14_0 hcz14_1
    try clear hcz16_0 hcz16_1
    try clear hcz20_0 hcz20_1
    try clear hcz22_0 hcz22_1
    try clear hcz24_0 hcz24_1
    try clear hcz26_0 hcz26_1
    try clear hcz28_0 hcz28_1
    try clear hcz30_0 hcz30_1
    try clear hcz34_0 hcz34_1
    try clear hcz36_0 hcz36_1
    try clear hcz38_0 hcz38_1
    try clear hcz40_0 hcz40_1
    try clear hcz42_0 hcz42_1
    try clear hcz44_0 hcz44_1
    try clear hcz46_0 hcz46_1
    try clear hcz48_0 hcz48_1
    try clear hcz56_0 hcz56_1
    try clear hcz58_0 hcz58_1
    try clear hcz60_0 hcz60_1
    try clear hcz64_0 hcz64_1
    try clear hcz66_0 hcz66_1
    try clear hcz68_0 hcz68_1
    try clear hcz6_0 hcz6_1
    try clear hcz70_0 hcz70_1
    try clear hcz72_0 hcz72_1
    try clear hcz74_0 hcz74_1
    try clear hcz76_0 hcz76_1
    try clear hcz78_0 hcz78_1
    try clear hcz82_0 hcz82_1
    try clear hcz84_0 hcz84_1
    try clear hcz86_0 hcz86_1
    try clear hcz88_0 hcz88_1
    try clear hcz90_0 hcz90_1
    try clear hcz92_0 hcz92_1
    try clear hcz94_0 hcz94_1
    try clear hcz96_0 hcz96_1
    try clear hcz98_0 hcz98_1
    try clear hfz100_0 hfz100_1
    try clear hfz102_0 hfz102_1
    try clear hfz103_0 hfz103_1
    try clear hfz105_0 hfz105_1
    try clear hfz14_0 hfz14_1
    try clear hfz16_0 hfz16_1
    try clear hfz20_0 hfz20_1
    try clear hfz22_0 hfz22_1
    try clear hfz24_0 hfz24_1
    try clear hfz26_0 hfz26_1
    try clear hfz28_0 hfz28_1
    try clear hfz30_0 hfz30_1
    try clear hfz34_0 hfz34_1
    try clear hfz36_0 hfz36_1
    try clear hfz38_0 hfz38_1
    try clear hfz40_0 hfz40_1
    try clear hfz42_0 hfz42_1
    try clear hfz44_0 hfz44_1
    try clear hfz46_0 hfz46_1
    try clear hfz48_0 hfz48_1
    try clear hfz56_0 hfz56_1
    try clear hfz58_0 hfz58_1
    try clear hfz60_0 hfz60_1
    try clear hfz64_0 hfz64_1
    try clear hfz66_0 hfz66_1
    try clear hfz68_0 hfz68_1
    try clear hfz6_0 hfz6_1
    try clear hfz70_0 hfz70_1
    try clear hfz72_0 hfz72_1
    try clear hfz74_0 hfz74_1
    try clear hfz76_0 hfz76_1
    try clear hfz78_0 hfz78_1
    try clear hfz82_0 hfz82_1
    try clear hfz84_0 hfz84_1
    try clear hfz86_0 hfz86_1
    try clear hfz88_0 hfz88_1
    try clear hfz90_0 hfz90_1
    try clear hfz92_0 hfz92_1
    try clear hfz94_0 hfz94_1
    try clear hfz96_0 hfz96_1
    try clear hfz98_0 hfz98_1
    try clear hx128_0
    try clear hx128_1
    try clear p128
    try clear q128
    obtain ⟨kq, x46_3, rfl, HA, HJ3, BK129, HB⟩ := hcut
    cases kq with
    | zero => exact absurd HA.out (by simp [selvageref10_rows.j1])
    | succ kj3 =>
     have H := HA.out
     clear HA
     simp only [selvageref10_rows.j1] at H
     by_cases c107 : x46_3 = true
     ·subst c107
      have H1 : (some false) = some r := by rw [if_pos rfl] at H; exact H
      clear H
      have H := H1
      clear H1
      obtain rfl := Option.some.inj H
      go_wp2
      go_ret
      exact ⟨eqEnd, belPut⟩
     replace c107 := Bool.eq_false_iff.mpr c107
     subst c107
     have H1 : ((selvageref01_Whole.f ((rd_T53 l0 x6_1).f1)).bind fun t140 => (if x3_1 = true then (if x4_1 = true then (if x5_1 = true then (selvageref10_rows.l0 kj3 l0 true true true (wrap64 (x6_1 + 1))) else (selvageref10_rows.l0 kj3 l0 true true (((rd_T53 l0 x6_1).f0) != 1) (wrap64 (x6_1 + 1)))) else (if t140 = true then (if x5_1 = true then (selvageref10_rows.l0 kj3 l0 true false true (wrap64 (x6_1 + 1))) else (selvageref10_rows.l0 kj3 l0 true false (((rd_T53 l0 x6_1).f0) != 1) (wrap64 (x6_1 + 1)))) else ((selvageref10_fresh.f ((rd_T53 l0 x6_1).f0) ((rd_T53 l0 x6_1).f1)).bind fun t141 => (if x5_1 = true then (selvageref10_rows.l0 kj3 l0 true t141 true (wrap64 (x6_1 + 1))) else (selvageref10_rows.l0 kj3 l0 true t141 (((rd_T53 l0 x6_1).f0) != 1) (wrap64 (x6_1 + 1))))))) else (if t140 = true then (if x4_1 = true then (if x5_1 = true then (selvageref10_rows.l0 kj3 l0 false true true (wrap64 (x6_1 + 1))) else (selvageref10_rows.l0 kj3 l0 false true (((rd_T53 l0 x6_1).f0) != 1) (wrap64 (x6_1 + 1)))) else (if x5_1 = true then (selvageref10_rows.l0 kj3 l0 false false true (wrap64 (x6_1 + 1))) else (selvageref10_rows.l0 kj3 l0 false false (((rd_T53 l0 x6_1).f0) != 1) (wrap64 (x6_1 + 1))))) else ((selvageref10_old.f ((rd_T53 l0 x6_1).f0) ((rd_T53 l0 x6_1).f1)).bind fun t142 => (if x4_1 = true then (if x5_1 = true then (selvageref10_rows.l0 kj3 l0 t142 true true (wrap64 (x6_1 + 1))) else (selvageref10_rows.l0 kj3 l0 t142 true (((rd_T53 l0 x6_1).f0) != 1) (wrap64 (x6_1 + 1)))) else ((selvageref10_fresh.f ((rd_T53 l0 x6_1).f0) ((rd_T53 l0 x6_1).f1)).bind fun t143 => (if x5_1 = true then (selvageref10_rows.l0 kj3 l0 t142 t143 true (wrap64 (x6_1 + 1))) else (selvageref10_rows.l0 kj3 l0 t142 t143 (((rd_T53 l0 x6_1).f0) != 1) (wrap64 (x6_1 + 1)))))))))) = some r := by rw [if_neg (show ¬ (false = true) by decide)] at H; exact H
     clear H
     have H := H1
     clear H1
     replace H := Option.bind_eq_some_iff.mp H
     obtain ⟨t140, A1080, H⟩ := H
     replace H : (if x3_1 = true then (if x4_1 = true then (if x5_1 = true then (selvageref10_rows.l0 kj3 l0 true true true (wrap64 (x6_1 + 1))) else (selvageref10_rows.l0 kj3 l0 true true (((rd_T53 l0 x6_1).f0) != 1) (wrap64 (x6_1 + 1)))) else (if t140 = true then (if x5_1 = true then (selvageref10_rows.l0 kj3 l0 true false true (wrap64 (x6_1 + 1))) else (selvageref10_rows.l0 kj3 l0 true false (((rd_T53 l0 x6_1).f0) != 1) (wrap64 (x6_1 + 1)))) else ((selvageref10_fresh.f ((rd_T53 l0 x6_1).f0) ((rd_T53 l0 x6_1).f1)).bind fun t141 => (if x5_1 = true then (selvageref10_rows.l0 kj3 l0 true t141 true (wrap64 (x6_1 + 1))) else (selvageref10_rows.l0 kj3 l0 true t141 (((rd_T53 l0 x6_1).f0) != 1) (wrap64 (x6_1 + 1))))))) else (if t140 = true then (if x4_1 = true then (if x5_1 = true then (selvageref10_rows.l0 kj3 l0 false true true (wrap64 (x6_1 + 1))) else (selvageref10_rows.l0 kj3 l0 false true (((rd_T53 l0 x6_1).f0) != 1) (wrap64 (x6_1 + 1)))) else (if x5_1 = true then (selvageref10_rows.l0 kj3 l0 false false true (wrap64 (x6_1 + 1))) else (selvageref10_rows.l0 kj3 l0 false false (((rd_T53 l0 x6_1).f0) != 1) (wrap64 (x6_1 + 1))))) else ((selvageref10_old.f ((rd_T53 l0 x6_1).f0) ((rd_T53 l0 x6_1).f1)).bind fun t142 => (if x4_1 = true then (if x5_1 = true then (selvageref10_rows.l0 kj3 l0 t142 true true (wrap64 (x6_1 + 1))) else (selvageref10_rows.l0 kj3 l0 t142 true (((rd_T53 l0 x6_1).f0) != 1) (wrap64 (x6_1 + 1)))) else ((selvageref10_fresh.f ((rd_T53 l0 x6_1).f0) ((rd_T53 l0 x6_1).f1)).bind fun t143 => (if x5_1 = true then (selvageref10_rows.l0 kj3 l0 t142 t143 true (wrap64 (x6_1 + 1))) else (selvageref10_rows.l0 kj3 l0 t142 t143 (((rd_T53 l0 x6_1).f0) != 1) (wrap64 (x6_1 + 1))))))))) = some r := H
     have A108 := Aside0.mk A1080
     clear A1080
     by_cases c109 : x3_1 = true
     ·subst c109
      have H1 : (if x4_1 = true then (if x5_1 = true then (selvageref10_rows.l0 kj3 l0 true true true (wrap64 (x6_1 + 1))) else (selvageref10_rows.l0 kj3 l0 true true (((rd_T53 l0 x6_1).f0) != 1) (wrap64 (x6_1 + 1)))) else (if t140 = true then (if x5_1 = true then (selvageref10_rows.l0 kj3 l0 true false true (wrap64 (x6_1 + 1))) else (selvageref10_rows.l0 kj3 l0 true false (((rd_T53 l0 x6_1).f0) != 1) (wrap64 (x6_1 + 1)))) else ((selvageref10_fresh.f ((rd_T53 l0 x6_1).f0) ((rd_T53 l0 x6_1).f1)).bind fun t141 => (if x5_1 = true then (selvageref10_rows.l0 kj3 l0 true t141 true (wrap64 (x6_1 + 1))) else (selvageref10_rows.l0 kj3 l0 true t141 (((rd_T53 l0 x6_1).f0) != 1) (wrap64 (x6_1 + 1))))))) = some r := by rw [if_pos rfl] at H; exact H
      clear H
      have H := H1
      clear H1
      by_cases c110 : x4_1 = true
      ·subst c110
       have H1 : (if x5_1 = true then (selvageref10_rows.l0 kj3 l0 true true true (wrap64 (x6_1 + 1))) else (selvageref10_rows.l0 kj3 l0 true true (((rd_T53 l0 x6_1).f0) != 1) (wrap64 (x6_1 + 1)))) = some r := by rw [if_pos rfl] at H; exact H
       clear H
       have H := H1
       clear H1
       by_cases c111 : x5_1 = true
       ·subst c111
        have H1 : (selvageref10_rows.l0 kj3 l0 true true true (wrap64 (x6_1 + 1))) = some r := by rw [if_pos rfl] at H; exact H
        clear H
        have H := H1
        clear H1
        have H' := Aside0.mk H
        clear H
        have hcz112_0 : wc.cell? ⟨gb129, 0, none⟩ = some (.int .i64 ((rd_T53 l0 x6_1).f0)) := (blk_cell BK129.out 0).trans rfl
        have hcz112_1 : wc.cell? ⟨gb129, 1, none⟩ = some (.string ((rd_T53 l0 x6_1).f1)) := (blk_cell BK129.out 1).trans rfl
        have hfz112_0 := blk_frozen BK129.out 0
        have hfz112_1 := blk_frozen BK129.out 1
        go_wp2_with (((with_reducible refine gate_callee (f := 58) rfl ?_); refine goesL_ (some 49) rfl rfl Tryz.func58 (by kernel_rfl) rfl #[.string ((rd_T53 l0 x6_1).f1)] rfl argsOk ?_; (with_reducible refine (selvageref01_Whole.calls ((rd_T53 l0 x6_1).f1) t140 _ A108.out).mono ?_); rintro e w' ⟨rfl, ⟨nd, rfl⟩⟩; refine ⟨_, rfl, ?_⟩))
        go_roundg kj3
        case measure => have := HK1.out; have := HJ3.out; omega
        case rel => exact ⟨(true), (true), (true), (wrap64 (x6_1 + 1)), eqNow, eqNow, eqNow, eqNow, H', ⟨by have := HK1.out; have := HJ3.out; omega⟩, ⟨belPut⟩⟩
       replace c111 := Bool.eq_false_iff.mpr c111
       subst c111
       have H1 : (selvageref10_rows.l0 kj3 l0 true true (((rd_T53 l0 x6_1).f0) != 1) (wrap64 (x6_1 + 1))) = some r := by rw [if_neg (show ¬ (false = true) by decide)] at H; exact H
       clear H
       have H := H1
       clear H1
       have H' := Aside0.mk H
       clear H
       have hcz113_0 : wc.cell? ⟨gb129, 0, none⟩ = some (.int .i64 ((rd_T53 l0 x6_1).f0)) := (blk_cell BK129.out 0).trans rfl
       have hcz113_1 : wc.cell? ⟨gb129, 1, none⟩ = some (.string ((rd_T53 l0 x6_1).f1)) := (blk_cell BK129.out 1).trans rfl
       have hfz113_0 := blk_frozen BK129.out 0
       have hfz113_1 := blk_frozen BK129.out 1
       go_wp2_with (((with_reducible refine gate_callee (f := 58) rfl ?_); refine goesL_ (some 49) rfl rfl Tryz.func58 (by kernel_rfl) rfl #[.string ((rd_T53 l0 x6_1).f1)] rfl argsOk ?_; (with_reducible refine (selvageref01_Whole.calls ((rd_T53 l0 x6_1).f1) t140 _ A108.out).mono ?_); rintro e w' ⟨rfl, ⟨nd, rfl⟩⟩; refine ⟨_, rfl, ?_⟩))
       go_roundg kj3
       case measure => have := HK1.out; have := HJ3.out; omega
       case rel => exact ⟨(true), (true), ((((rd_T53 l0 x6_1).f0) != 1)), (wrap64 (x6_1 + 1)), eqNow, eqNow, eqNow, eqNow, H', ⟨by have := HK1.out; have := HJ3.out; omega⟩, ⟨belPut⟩⟩
      replace c110 := Bool.eq_false_iff.mpr c110
      subst c110
      have H1 : (if t140 = true then (if x5_1 = true then (selvageref10_rows.l0 kj3 l0 true false true (wrap64 (x6_1 + 1))) else (selvageref10_rows.l0 kj3 l0 true false (((rd_T53 l0 x6_1).f0) != 1) (wrap64 (x6_1 + 1)))) else ((selvageref10_fresh.f ((rd_T53 l0 x6_1).f0) ((rd_T53 l0 x6_1).f1)).bind fun t141 => (if x5_1 = true then (selvageref10_rows.l0 kj3 l0 true t141 true (wrap64 (x6_1 + 1))) else (selvageref10_rows.l0 kj3 l0 true t141 (((rd_T53 l0 x6_1).f0) != 1) (wrap64 (x6_1 + 1)))))) = some r := by rw [if_neg (show ¬ (false = true) by decide)] at H; exact H
      clear H
      have H := H1
      clear H1
      by_cases c114 : t140 = true
      ·subst c114
       have H1 : (if x5_1 = true then (selvageref10_rows.l0 kj3 l0 true false true (wrap64 (x6_1 + 1))) else (selvageref10_rows.l0 kj3 l0 true false (((rd_T53 l0 x6_1).f0) != 1) (wrap64 (x6_1 + 1)))) = some r := by rw [if_pos rfl] at H; exact H
       clear H
       have H := H1
       clear H1
       by_cases c115 : x5_1 = true
       ·subst c115
        have H1 : (selvageref10_rows.l0 kj3 l0 true false true (wrap64 (x6_1 + 1))) = some r := by rw [if_pos rfl] at H; exact H
        clear H
        have H := H1
        clear H1
        have H' := Aside0.mk H
        clear H
        have hcz116_0 : wc.cell? ⟨gb129, 0, none⟩ = some (.int .i64 ((rd_T53 l0 x6_1).f0)) := (blk_cell BK129.out 0).trans rfl
        have hcz116_1 : wc.cell? ⟨gb129, 1, none⟩ = some (.string ((rd_T53 l0 x6_1).f1)) := (blk_cell BK129.out 1).trans rfl
        have hfz116_0 := blk_frozen BK129.out 0
        have hfz116_1 := blk_frozen BK129.out 1
        go_wp2_with (((with_reducible refine gate_callee (f := 58) rfl ?_); refine goesL_ (some 49) rfl rfl Tryz.func58 (by kernel_rfl) rfl #[.string ((rd_T53 l0 x6_1).f1)] rfl argsOk ?_; (with_reducible refine (selvageref01_Whole.calls ((rd_T53 l0 x6_1).f1) true _ A108.out).mono ?_); rintro e w' ⟨rfl, ⟨nd, rfl⟩⟩; refine ⟨_, rfl, ?_⟩))
        go_roundg kj3
        case measure => have := HK1.out; have := HJ3.out; omega
        case rel => exact ⟨(true), (false), (true), (wrap64 (x6_1 + 1)), eqNow, eqNow, eqNow, eqNow, H', ⟨by have := HK1.out; have := HJ3.out; omega⟩, ⟨belPut⟩⟩
       replace c115 := Bool.eq_false_iff.mpr c115
       subst c115
       have H1 : (selvageref10_rows.l0 kj3 l0 true false (((rd_T53 l0 x6_1).f0) != 1) (wrap64 (x6_1 + 1))) = some r := by rw [if_neg (show ¬ (false = true) by decide)] at H; exact H
       clear H
       have H := H1
       clear H1
       have H' := Aside0.mk H
       clear H
       have hcz117_0 : wc.cell? ⟨gb129, 0, none⟩ = some (.int .i64 ((rd_T53 l0 x6_1).f0)) := (blk_cell BK129.out 0).trans rfl
       have hcz117_1 : wc.cell? ⟨gb129, 1, none⟩ = some (.string ((rd_T53 l0 x6_1).f1)) := (blk_cell BK129.out 1).trans rfl
       have hfz117_0 := blk_frozen BK129.out 0
       have hfz117_1 := blk_frozen BK129.out 1
       go_wp2_with (((with_reducible refine gate_callee (f := 58) rfl ?_); refine goesL_ (some 49) rfl rfl Tryz.func58 (by kernel_rfl) rfl #[.string ((rd_T53 l0 x6_1).f1)] rfl argsOk ?_; (with_reducible refine (selvageref01_Whole.calls ((rd_T53 l0 x6_1).f1) true _ A108.out).mono ?_); rintro e w' ⟨rfl, ⟨nd, rfl⟩⟩; refine ⟨_, rfl, ?_⟩))
       go_roundg kj3
       case measure => have := HK1.out; have := HJ3.out; omega
       case rel => exact ⟨(true), (false), ((((rd_T53 l0 x6_1).f0) != 1)), (wrap64 (x6_1 + 1)), eqNow, eqNow, eqNow, eqNow, H', ⟨by have := HK1.out; have := HJ3.out; omega⟩, ⟨belPut⟩⟩
      replace c114 := Bool.eq_false_iff.mpr c114
      subst c114
      have H1 : ((selvageref10_fresh.f ((rd_T53 l0 x6_1).f0) ((rd_T53 l0 x6_1).f1)).bind fun t141 => (if x5_1 = true then (selvageref10_rows.l0 kj3 l0 true t141 true (wrap64 (x6_1 + 1))) else (selvageref10_rows.l0 kj3 l0 true t141 (((rd_T53 l0 x6_1).f0) != 1) (wrap64 (x6_1 + 1))))) = some r := by rw [if_neg (show ¬ (false = true) by decide)] at H; exact H
      clear H
      have H := H1
      clear H1
      replace H := Option.bind_eq_some_iff.mp H
      obtain ⟨t141, A1180, H⟩ := H
      replace H : (if x5_1 = true then (selvageref10_rows.l0 kj3 l0 true t141 true (wrap64 (x6_1 + 1))) else (selvageref10_rows.l0 kj3 l0 true t141 (((rd_T53 l0 x6_1).f0) != 1) (wrap64 (x6_1 + 1)))) = some r := H
      have A118 := Aside0.mk A1180
      clear A1180
      by_cases c119 : x5_1 = true
      ·subst c119
       have H1 : (selvageref10_rows.l0 kj3 l0 true t141 true (wrap64 (x6_1 + 1))) = some r := by rw [if_pos rfl] at H; exact H
       clear H
       have H := H1
       clear H1
       have H' := Aside0.mk H
       clear H
       have hcz120_0 : wc.cell? ⟨gb129, 0, none⟩ = some (.int .i64 ((rd_T53 l0 x6_1).f0)) := (blk_cell BK129.out 0).trans rfl
       have hcz120_1 : wc.cell? ⟨gb129, 1, none⟩ = some (.string ((rd_T53 l0 x6_1).f1)) := (blk_cell BK129.out 1).trans rfl
       have hfz120_0 := blk_frozen BK129.out 0
       have hfz120_1 := blk_frozen BK129.out 1
       go_wp2_with (first | ((with_reducible refine gate_callee (f := 58) rfl ?_); refine goesL_ (some 49) rfl rfl Tryz.func58 (by kernel_rfl) rfl #[.string ((rd_T53 l0 x6_1).f1)] rfl argsOk ?_; (with_reducible refine (selvageref01_Whole.calls ((rd_T53 l0 x6_1).f1) false _ A108.out).mono ?_); rintro e w' ⟨rfl, ⟨nd, rfl⟩⟩; refine ⟨_, rfl, ?_⟩) | (go_at_call 69; (with_reducible refine (selvageref10_fresh.calls ((rd_T53 l0 x6_1).f0) ((rd_T53 l0 x6_1).f1) t141 _ A118.out).mono ?_); rintro e w121 ⟨rfl, hb⟩; have n0_ := Aside0.mk (blk_below (g := gb129) (o := .cells #[.int .i64 ((rd_T53 l0 x6_1).f0), .string ((rd_T53 l0 x6_1).f1)] 53 (0, 0)) (bkUp BK129.out) hb); have n1_ := Aside0.mk (below_step (belPut) hb); clear BK129 HB; have BK129 := n0_; have HB := n1_; clear n0_ n1_; (try clear hb); (try clear hb2); (try clear hk); (try clear hi)))
       go_roundg kj3
       case measure => have := HK1.out; have := HJ3.out; omega
       case rel => exact ⟨(true), (t141), (true), (wrap64 (x6_1 + 1)), eqNow, eqNow, eqNow, eqNow, H', ⟨by have := HK1.out; have := HJ3.out; omega⟩, ⟨belPut⟩⟩
      replace c119 := Bool.eq_false_iff.mpr c119
      subst c119
      have H1 : (selvageref10_rows.l0 kj3 l0 true t141 (((rd_T53 l0 x6_1).f0) != 1) (wrap64 (x6_1 + 1))) = some r := by rw [if_neg (show ¬ (false = true) by decide)] at H; exact H
      clear H
      have H := H1
      clear H1
      have H' := Aside0.mk H
      clear H
      have hcz122_0 : wc.cell? ⟨gb129, 0, none⟩ = some (.int .i64 ((rd_T53 l0 x6_1).f0)) := (blk_cell BK129.out 0).trans rfl
      have hcz122_1 : wc.cell? ⟨gb129, 1, none⟩ = some (.string ((rd_T53 l0 x6_1).f1)) := (blk_cell BK129.out 1).trans rfl
      have hfz122_0 := blk_frozen BK129.out 0
      have hfz122_1 := blk_frozen BK129.out 1
      go_wp2_with (first | ((with_reducible refine gate_callee (f := 58) rfl ?_); refine goesL_ (some 49) rfl rfl Tryz.func58 (by kernel_rfl) rfl #[.string ((rd_T53 l0 x6_1).f1)] rfl argsOk ?_; (with_reducible refine (selvageref01_Whole.calls ((rd_T53 l0 x6_1).f1) false _ A108.out).mono ?_); rintro e w' ⟨rfl, ⟨nd, rfl⟩⟩; refine ⟨_, rfl, ?_⟩) | (go_at_call 69; (with_reducible refine (selvageref10_fresh.calls ((rd_T53 l0 x6_1).f0) ((rd_T53 l0 x6_1).f1) t141 _ A118.out).mono ?_); rintro e w123 ⟨rfl, hb⟩; have n0_ := Aside0.mk (blk_below (g := gb129) (o := .cells #[.int .i64 ((rd_T53 l0 x6_1).f0), .string ((rd_T53 l0 x6_1).f1)] 53 (0, 0)) (bkUp BK129.out) hb); have n1_ := Aside0.mk (below_step (belPut) hb); clear BK129 HB; have BK129 := n0_; have HB := n1_; clear n0_ n1_; (try clear hb); (try clear hb2); (try clear hk); (try clear hi); have hcz124_0 : w123.cell? ⟨gb129, 0, none⟩ = some (.int .i64 ((rd_T53 l0 x6_1).f0)) := (blk_cell BK129.out 0).trans rfl; have hcz124_1 : w123.cell? ⟨gb129, 1, none⟩ = some (.string ((rd_T53 l0 x6_1).f1)) := (blk_cell BK129.out 1).trans rfl; have hfz124_0 := blk_frozen BK129.out 0; have hfz124_1 := blk_frozen BK129.out 1))
      go_roundg kj3
      case measure => have := HK1.out; have := HJ3.out; omega
      case rel => exact ⟨(true), (t141), ((((rd_T53 l0 x6_1).f0) != 1)), (wrap64 (x6_1 + 1)), eqNow, eqNow, eqNow, eqNow, H', ⟨by have := HK1.out; have := HJ3.out; omega⟩, ⟨belPut⟩⟩
     replace c109 := Bool.eq_false_iff.mpr c109
     subst c109
     have H1 : (if t140 = true then (if x4_1 = true then (if x5_1 = true then (selvageref10_rows.l0 kj3 l0 false true true (wrap64 (x6_1 + 1))) else (selvageref10_rows.l0 kj3 l0 false true (((rd_T53 l0 x6_1).f0) != 1) (wrap64 (x6_1 + 1)))) else (if x5_1 = true then (selvageref10_rows.l0 kj3 l0 false false true (wrap64 (x6_1 + 1))) else (selvageref10_rows.l0 kj3 l0 false false (((rd_T53 l0 x6_1).f0) != 1) (wrap64 (x6_1 + 1))))) else ((selvageref10_old.f ((rd_T53 l0 x6_1).f0) ((rd_T53 l0 x6_1).f1)).bind fun t142 => (if x4_1 = true then (if x5_1 = true then (selvageref10_rows.l0 kj3 l0 t142 true true (wrap64 (x6_1 + 1))) else (selvageref10_rows.l0 kj3 l0 t142 true (((rd_T53 l0 x6_1).f0) != 1) (wrap64 (x6_1 + 1)))) else ((selvageref10_fresh.f ((rd_T53 l0 x6_1).f0) ((rd_T53 l0 x6_1).f1)).bind fun t143 => (if x5_1 = true then (selvageref10_rows.l0 kj3 l0 t142 t143 true (wrap64 (x6_1 + 1))) else (selvageref10_rows.l0 kj3 l0 t142 t143 (((rd_T53 l0 x6_1).f0) != 1) (wrap64 (x6_1 + 1)))))))) = some r := by rw [if_neg (show ¬ (false = true) by decide)] at H; exact H
     clear H
     have H := H1
     clear H1
     by_cases c125 : t140 = true
     ·subst c125
      have H1 : (if x4_1 = true then (if x5_1 = true then (selvageref10_rows.l0 kj3 l0 false true true (wrap64 (x6_1 + 1))) else (selvageref10_rows.l0 kj3 l0 false true (((rd_T53 l0 x6_1).f0) != 1) (wrap64 (x6_1 + 1)))) else (if x5_1 = true then (selvageref10_rows.l0 kj3 l0 false false true (wrap64 (x6_1 + 1))) else (selvageref10_rows.l0 kj3 l0 false false (((rd_T53 l0 x6_1).f0) != 1) (wrap64 (x6_1 + 1))))) = some r := by rw [if_pos rfl] at H; exact H
      clear H
      have H := H1
      clear H1
      by_cases c126 : x4_1 = true
      ·subst c126
       have H1 : (if x5_1 = true then (selvageref10_rows.l0 kj3 l0 false true true (wrap64 (x6_1 + 1))) else (selvageref10_rows.l0 kj3 l0 false true (((rd_T53 l0 x6_1).f0) != 1) (wrap64 (x6_1 + 1)))) = some r := by rw [if_pos rfl] at H; exact H
       clear H
       have H := H1
       clear H1
       by_cases c127 : x5_1 = true
       ·subst c127
        have H1 : (selvageref10_rows.l0 kj3 l0 false true true (wrap64 (x6_1 + 1))) = some r := by rw [if_pos rfl] at H; exact H
        clear H
        have H := H1
        clear H1
        have H' := Aside0.mk H
        clear H
        have hcz128_0 : wc.cell? ⟨gb129, 0, none⟩ = some (.int .i64 ((rd_T53 l0 x6_1).f0)) := (blk_cell BK129.out 0).trans rfl
        have hcz128_1 : wc.cell? ⟨gb129, 1, none⟩ = some (.string ((rd_T53 l0 x6_1).f1)) := (blk_cell BK129.out 1).trans rfl
        have hfz128_0 := blk_frozen BK129.out 0
        have hfz128_1 := blk_frozen BK129.out 1
        go_wp2_with (((with_reducible refine gate_callee (f := 58) rfl ?_); refine goesL_ (some 49) rfl rfl Tryz.func58 (by kernel_rfl) rfl #[.string ((rd_T53 l0 x6_1).f1)] rfl argsOk ?_; (with_reducible refine (selvageref01_Whole.calls ((rd_T53 l0 x6_1).f1) true _ A108.out).mono ?_); rintro e w' ⟨rfl, ⟨nd, rfl⟩⟩; refine ⟨_, rfl, ?_⟩))
        go_roundg kj3
        case measure => have := HK1.out; have := HJ3.out; omega
        case rel => exact ⟨(false), (true), (true), (wrap64 (x6_1 + 1)), eqNow, eqNow, eqNow, eqNow, H', ⟨by have := HK1.out; have := HJ3.out; omega⟩, ⟨belPut⟩⟩
       replace c127 := Bool.eq_false_iff.mpr c127
       subst c127
       have H1 : (selvageref10_rows.l0 kj3 l0 false true (((rd_T53 l0 x6_1).f0) != 1) (wrap64 (x6_1 + 1))) = some r := by rw [if_neg (show ¬ (false = true) by decide)] at H; exact H
       clear H
       have H := H1
       clear H1
       have H' := Aside0.mk H
       clear H
       have hcz129_0 : wc.cell? ⟨gb129, 0, none⟩ = some (.int .i64 ((rd_T53 l0 x6_1).f0)) := (blk_cell BK129.out 0).trans rfl
       have hcz129_1 : wc.cell? ⟨gb129, 1, none⟩ = some (.string ((rd_T53 l0 x6_1).f1)) := (blk_cell BK129.out 1).trans rfl
       have hfz129_0 := blk_frozen BK129.out 0
       have hfz129_1 := blk_frozen BK129.out 1
       go_wp2_with (((with_reducible refine gate_callee (f := 58) rfl ?_); refine goesL_ (some 49) rfl rfl Tryz.func58 (by kernel_rfl) rfl #[.string ((rd_T53 l0 x6_1).f1)] rfl argsOk ?_; (with_reducible refine (selvageref01_Whole.calls ((rd_T53 l0 x6_1).f1) true _ A108.out).mono ?_); rintro e w' ⟨rfl, ⟨nd, rfl⟩⟩; refine ⟨_, rfl, ?_⟩))
       go_roundg kj3
       case measure => have := HK1.out; have := HJ3.out; omega
       case rel => exact ⟨(false), (true), ((((rd_T53 l0 x6_1).f0) != 1)), (wrap64 (x6_1 + 1)), eqNow, eqNow, eqNow, eqNow, H', ⟨by have := HK1.out; have := HJ3.out; omega⟩, ⟨belPut⟩⟩
      replace c126 := Bool.eq_false_iff.mpr c126
      subst c126
      have H1 : (if x5_1 = true then (selvageref10_rows.l0 kj3 l0 false false true (wrap64 (x6_1 + 1))) else (selvageref10_rows.l0 kj3 l0 false false (((rd_T53 l0 x6_1).f0) != 1) (wrap64 (x6_1 + 1)))) = some r := by rw [if_neg (show ¬ (false = true) by decide)] at H; exact H
      clear H
      have H := H1
      clear H1
      by_cases c130 : x5_1 = true
      ·subst c130
       have H1 : (selvageref10_rows.l0 kj3 l0 false false true (wrap64 (x6_1 + 1))) = some r := by rw [if_pos rfl] at H; exact H
       clear H
       have H := H1
       clear H1
       have H' := Aside0.mk H
       clear H
       have hcz131_0 : wc.cell? ⟨gb129, 0, none⟩ = some (.int .i64 ((rd_T53 l0 x6_1).f0)) := (blk_cell BK129.out 0).trans rfl
       have hcz131_1 : wc.cell? ⟨gb129, 1, none⟩ = some (.string ((rd_T53 l0 x6_1).f1)) := (blk_cell BK129.out 1).trans rfl
       have hfz131_0 := blk_frozen BK129.out 0
       have hfz131_1 := blk_frozen BK129.out 1
       go_wp2_with (((with_reducible refine gate_callee (f := 58) rfl ?_); refine goesL_ (some 49) rfl rfl Tryz.func58 (by kernel_rfl) rfl #[.string ((rd_T53 l0 x6_1).f1)] rfl argsOk ?_; (with_reducible refine (selvageref01_Whole.calls ((rd_T53 l0 x6_1).f1) true _ A108.out).mono ?_); rintro e w' ⟨rfl, ⟨nd, rfl⟩⟩; refine ⟨_, rfl, ?_⟩))
       go_roundg kj3
       case measure => have := HK1.out; have := HJ3.out; omega
       case rel => exact ⟨(false), (false), (true), (wrap64 (x6_1 + 1)), eqNow, eqNow, eqNow, eqNow, H', ⟨by have := HK1.out; have := HJ3.out; omega⟩, ⟨belPut⟩⟩
      replace c130 := Bool.eq_false_iff.mpr c130
      subst c130
      have H1 : (selvageref10_rows.l0 kj3 l0 false false (((rd_T53 l0 x6_1).f0) != 1) (wrap64 (x6_1 + 1))) = some r := by rw [if_neg (show ¬ (false = true) by decide)] at H; exact H
      clear H
      have H := H1
      clear H1
      have H' := Aside0.mk H
      clear H
      have hcz132_0 : wc.cell? ⟨gb129, 0, none⟩ = some (.int .i64 ((rd_T53 l0 x6_1).f0)) := (blk_cell BK129.out 0).trans rfl
      have hcz132_1 : wc.cell? ⟨gb129, 1, none⟩ = some (.string ((rd_T53 l0 x6_1).f1)) := (blk_cell BK129.out 1).trans rfl
      have hfz132_0 := blk_frozen BK129.out 0
      have hfz132_1 := blk_frozen BK129.out 1
      go_wp2_with (((with_reducible refine gate_callee (f := 58) rfl ?_); refine goesL_ (some 49) rfl rfl Tryz.func58 (by kernel_rfl) rfl #[.string ((rd_T53 l0 x6_1).f1)] rfl argsOk ?_; (with_reducible refine (selvageref01_Whole.calls ((rd_T53 l0 x6_1).f1) true _ A108.out).mono ?_); rintro e w' ⟨rfl, ⟨nd, rfl⟩⟩; refine ⟨_, rfl, ?_⟩))
      go_roundg kj3
      case measure => have := HK1.out; have := HJ3.out; omega
      case rel => exact ⟨(false), (false), ((((rd_T53 l0 x6_1).f0) != 1)), (wrap64 (x6_1 + 1)), eqNow, eqNow, eqNow, eqNow, H', ⟨by have := HK1.out; have := HJ3.out; omega⟩, ⟨belPut⟩⟩
     replace c125 := Bool.eq_false_iff.mpr c125
     subst c125
     have H1 : ((selvageref10_old.f ((rd_T53 l0 x6_1).f0) ((rd_T53 l0 x6_1).f1)).bind fun t142 => (if x4_1 = true then (if x5_1 = true then (selvageref10_rows.l0 kj3 l0 t142 true true (wrap64 (x6_1 + 1))) else (selvageref10_rows.l0 kj3 l0 t142 true (((rd_T53 l0 x6_1).f0) != 1) (wrap64 (x6_1 + 1)))) else ((selvageref10_fresh.f ((rd_T53 l0 x6_1).f0) ((rd_T53 l0 x6_1).f1)).bind fun t143 => (if x5_1 = true then (selvageref10_rows.l0 kj3 l0 t142 t143 true (wrap64 (x6_1 + 1))) else (selvageref10_rows.l0 kj3 l0 t142 t143 (((rd_T53 l0 x6_1).f0) != 1) (wrap64 (x6_1 + 1))))))) = some r := by rw [if_neg (show ¬ (false = true) by decide)] at H; exact H
     clear H
     have H := H1
     clear H1
     replace H := Option.bind_eq_some_iff.mp H
     obtain ⟨t142, A1330, H⟩ := H
     replace H : (if x4_1 = true then (if x5_1 = true then (selvageref10_rows.l0 kj3 l0 t142 true true (wrap64 (x6_1 + 1))) else (selvageref10_rows.l0 kj3 l0 t142 true (((rd_T53 l0 x6_1).f0) != 1) (wrap64 (x6_1 + 1)))) else ((selvageref10_fresh.f ((rd_T53 l0 x6_1).f0) ((rd_T53 l0 x6_1).f1)).bind fun t143 => (if x5_1 = true then (selvageref10_rows.l0 kj3 l0 t142 t143 true (wrap64 (x6_1 + 1))) else (selvageref10_rows.l0 kj3 l0 t142 t143 (((rd_T53 l0 x6_1).f0) != 1) (wrap64 (x6_1 + 1)))))) = some r := H
     have A133 := Aside0.mk A1330
     clear A1330
     by_cases c134 : x4_1 = true
     ·subst c134
      have H1 : (if x5_1 = true then (selvageref10_rows.l0 kj3 l0 t142 true true (wrap64 (x6_1 + 1))) else (selvageref10_rows.l0 kj3 l0 t142 true (((rd_T53 l0 x6_1).f0) != 1) (wrap64 (x6_1 + 1)))) = some r := by rw [if_pos rfl] at H; exact H
      clear H
      have H := H1
      clear H1
      by_cases c135 : x5_1 = true
      ·subst c135
       have H1 : (selvageref10_rows.l0 kj3 l0 t142 true true (wrap64 (x6_1 + 1))) = some r := by rw [if_pos rfl] at H; exact H
       clear H
       have H := H1
       clear H1
       have H' := Aside0.mk H
       clear H
       have hcz136_0 : wc.cell? ⟨gb129, 0, none⟩ = some (.int .i64 ((rd_T53 l0 x6_1).f0)) := (blk_cell BK129.out 0).trans rfl
       have hcz136_1 : wc.cell? ⟨gb129, 1, none⟩ = some (.string ((rd_T53 l0 x6_1).f1)) := (blk_cell BK129.out 1).trans rfl
       have hfz136_0 := blk_frozen BK129.out 0
       have hfz136_1 := blk_frozen BK129.out 1
       go_wp2_with (first | ((with_reducible refine gate_callee (f := 58) rfl ?_); refine goesL_ (some 49) rfl rfl Tryz.func58 (by kernel_rfl) rfl #[.string ((rd_T53 l0 x6_1).f1)] rfl argsOk ?_; (with_reducible refine (selvageref01_Whole.calls ((rd_T53 l0 x6_1).f1) false _ A108.out).mono ?_); rintro e w' ⟨rfl, ⟨nd, rfl⟩⟩; refine ⟨_, rfl, ?_⟩) | (go_at_call 68; (with_reducible refine (selvageref10_old.calls ((rd_T53 l0 x6_1).f0) ((rd_T53 l0 x6_1).f1) t142 _ A133.out).mono ?_); rintro e w137 ⟨rfl, hb⟩; have n0_ := Aside0.mk (blk_below (g := gb129) (o := .cells #[.int .i64 ((rd_T53 l0 x6_1).f0), .string ((rd_T53 l0 x6_1).f1)] 53 (0, 0)) (bkUp BK129.out) hb); have n1_ := Aside0.mk (below_step (belPut) hb); clear BK129 HB; have BK129 := n0_; have HB := n1_; clear n0_ n1_; (try clear hb); (try clear hb2); (try clear hk); (try clear hi)))
       go_roundg kj3
       case measure => have := HK1.out; have := HJ3.out; omega
       case rel => exact ⟨(t142), (true), (true), (wrap64 (x6_1 + 1)), eqNow, eqNow, eqNow, eqNow, H', ⟨by have := HK1.out; have := HJ3.out; omega⟩, ⟨belPut⟩⟩
      replace c135 := Bool.eq_false_iff.mpr c135
      subst c135
      have H1 : (selvageref10_rows.l0 kj3 l0 t142 true (((rd_T53 l0 x6_1).f0) != 1) (wrap64 (x6_1 + 1))) = some r := by rw [if_neg (show ¬ (false = true) by decide)] at H; exact H
      clear H
      have H := H1
      clear H1
      have H' := Aside0.mk H
      clear H
      have hcz138_0 : wc.cell? ⟨gb129, 0, none⟩ = some (.int .i64 ((rd_T53 l0 x6_1).f0)) := (blk_cell BK129.out 0).trans rfl
      have hcz138_1 : wc.cell? ⟨gb129, 1, none⟩ = some (.string ((rd_T53 l0 x6_1).f1)) := (blk_cell BK129.out 1).trans rfl
      have hfz138_0 := blk_frozen BK129.out 0
      have hfz138_1 := blk_frozen BK129.out 1
      go_wp2_with (first | ((with_reducible refine gate_callee (f := 58) rfl ?_); refine goesL_ (some 49) rfl rfl Tryz.func58 (by kernel_rfl) rfl #[.string ((rd_T53 l0 x6_1).f1)] rfl argsOk ?_; (with_reducible refine (selvageref01_Whole.calls ((rd_T53 l0 x6_1).f1) false _ A108.out).mono ?_); rintro e w' ⟨rfl, ⟨nd, rfl⟩⟩; refine ⟨_, rfl, ?_⟩) | (go_at_call 68; (with_reducible refine (selvageref10_old.calls ((rd_T53 l0 x6_1).f0) ((rd_T53 l0 x6_1).f1) t142 _ A133.out).mono ?_); rintro e w139 ⟨rfl, hb⟩; have n0_ := Aside0.mk (blk_below (g := gb129) (o := .cells #[.int .i64 ((rd_T53 l0 x6_1).f0), .string ((rd_T53 l0 x6_1).f1)] 53 (0, 0)) (bkUp BK129.out) hb); have n1_ := Aside0.mk (below_step (belPut) hb); clear BK129 HB; have BK129 := n0_; have HB := n1_; clear n0_ n1_; (try clear hb); (try clear hb2); (try clear hk); (try clear hi); have hcz140_0 : w139.cell? ⟨gb129, 0, none⟩ = some (.int .i64 ((rd_T53 l0 x6_1).f0)) := (blk_cell BK129.out 0).trans rfl; have hcz140_1 : w139.cell? ⟨gb129, 1, none⟩ = some (.string ((rd_T53 l0 x6_1).f1)) := (blk_cell BK129.out 1).trans rfl; have hfz140_0 := blk_frozen BK129.out 0; have hfz140_1 := blk_frozen BK129.out 1))
      go_roundg kj3
      case measure => have := HK1.out; have := HJ3.out; omega
      case rel => exact ⟨(t142), (true), ((((rd_T53 l0 x6_1).f0) != 1)), (wrap64 (x6_1 + 1)), eqNow, eqNow, eqNow, eqNow, H', ⟨by have := HK1.out; have := HJ3.out; omega⟩, ⟨belPut⟩⟩
     replace c134 := Bool.eq_false_iff.mpr c134
     subst c134
     have H1 : ((selvageref10_fresh.f ((rd_T53 l0 x6_1).f0) ((rd_T53 l0 x6_1).f1)).bind fun t143 => (if x5_1 = true then (selvageref10_rows.l0 kj3 l0 t142 t143 true (wrap64 (x6_1 + 1))) else (selvageref10_rows.l0 kj3 l0 t142 t143 (((rd_T53 l0 x6_1).f0) != 1) (wrap64 (x6_1 + 1))))) = some r := by rw [if_neg (show ¬ (false = true) by decide)] at H; exact H
     clear H
     have H := H1
     clear H1
     replace H := Option.bind_eq_some_iff.mp H
     obtain ⟨t143, A1410, H⟩ := H
     replace H : (if x5_1 = true then (selvageref10_rows.l0 kj3 l0 t142 t143 true (wrap64 (x6_1 + 1))) else (selvageref10_rows.l0 kj3 l0 t142 t143 (((rd_T53 l0 x6_1).f0) != 1) (wrap64 (x6_1 + 1)))) = some r := H
     have A141 := Aside0.mk A1410
     clear A1410
     by_cases c142 : x5_1 = true
     ·subst c142
      have H1 : (selvageref10_rows.l0 kj3 l0 t142 t143 true (wrap64 (x6_1 + 1))) = some r := by rw [if_pos rfl] at H; exact H
      clear H
      have H := H1
      clear H1
      have H' := Aside0.mk H
      clear H
      have hcz143_0 : wc.cell? ⟨gb129, 0, none⟩ = some (.int .i64 ((rd_T53 l0 x6_1).f0)) := (blk_cell BK129.out 0).trans rfl
      have hcz143_1 : wc.cell? ⟨gb129, 1, none⟩ = some (.string ((rd_T53 l0 x6_1).f1)) := (blk_cell BK129.out 1).trans rfl
      have hfz143_0 := blk_frozen BK129.out 0
      have hfz143_1 := blk_frozen BK129.out 1
      go_wp2_with (first | ((with_reducible refine gate_callee (f := 58) rfl ?_); refine goesL_ (some 49) rfl rfl Tryz.func58 (by kernel_rfl) rfl #[.string ((rd_T53 l0 x6_1).f1)] rfl argsOk ?_; (with_reducible refine (selvageref01_Whole.calls ((rd_T53 l0 x6_1).f1) false _ A108.out).mono ?_); rintro e w' ⟨rfl, ⟨nd, rfl⟩⟩; refine ⟨_, rfl, ?_⟩) | (go_at_call 68; (with_reducible refine (selvageref10_old.calls ((rd_T53 l0 x6_1).f0) ((rd_T53 l0 x6_1).f1) t142 _ A133.out).mono ?_); rintro e w144 ⟨rfl, hb⟩; have n0_ := Aside0.mk (blk_below (g := gb129) (o := .cells #[.int .i64 ((rd_T53 l0 x6_1).f0), .string ((rd_T53 l0 x6_1).f1)] 53 (0, 0)) (bkUp BK129.out) hb); have n1_ := Aside0.mk (below_step (belPut) hb); clear BK129 HB; have BK129 := n0_; have HB := n1_; clear n0_ n1_; (try clear hb); (try clear hb2); (try clear hk); (try clear hi); have hcz145_0 : w144.cell? ⟨gb129, 0, none⟩ = some (.int .i64 ((rd_T53 l0 x6_1).f0)) := (blk_cell BK129.out 0).trans rfl; have hcz145_1 : w144.cell? ⟨gb129, 1, none⟩ = some (.string ((rd_T53 l0 x6_1).f1)) := (blk_cell BK129.out 1).trans rfl; have hfz145_0 := blk_frozen BK129.out 0; have hfz145_1 := blk_frozen BK129.out 1) | (go_at_call 69; (with_reducible refine (selvageref10_fresh.calls ((rd_T53 l0 x6_1).f0) ((rd_T53 l0 x6_1).f1) t143 _ A141.out).mono ?_); rintro e w146 ⟨rfl, hb⟩; have n0_ := Aside0.mk (blk_below (g := gb129) (o := .cells #[.int .i64 ((rd_T53 l0 x6_1).f0), .string ((rd_T53 l0 x6_1).f1)] 53 (0, 0)) (bkUp BK129.out) hb); have n1_ := Aside0.mk (below_step (belPut) hb); clear BK129 HB; have BK129 := n0_; have HB := n1_; clear n0_ n1_; (try clear hb); (try clear hb2); (try clear hk); (try clear hi)))
      go_roundg kj3
      case measure => have := HK1.out; have := HJ3.out; omega
      case rel => exact ⟨(t142), (t143), (true), (wrap64 (x6_1 + 1)), eqNow, eqNow, eqNow, eqNow, H', ⟨by have := HK1.out; have := HJ3.out; omega⟩, ⟨belPut⟩⟩
     replace c142 := Bool.eq_false_iff.mpr c142
     subst c142
     have H1 : (selvageref10_rows.l0 kj3 l0 t142 t143 (((rd_T53 l0 x6_1).f0) != 1) (wrap64 (x6_1 + 1))) = some r := by rw [if_neg (show ¬ (false = true) by decide)] at H; exact H
     clear H
     have H := H1
     clear H1
     have H' := Aside0.mk H
     clear H
     have hcz147_0 : wc.cell? ⟨gb129, 0, none⟩ = some (.int .i64 ((rd_T53 l0 x6_1).f0)) := (blk_cell BK129.out 0).trans rfl
     have hcz147_1 : wc.cell? ⟨gb129, 1, none⟩ = some (.string ((rd_T53 l0 x6_1).f1)) := (blk_cell BK129.out 1).trans rfl
     have hfz147_0 := blk_frozen BK129.out 0
     have hfz147_1 := blk_frozen BK129.out 1
     go_wp2_with (first | ((with_reducible refine gate_callee (f := 58) rfl ?_); refine goesL_ (some 49) rfl rfl Tryz.func58 (by kernel_rfl) rfl #[.string ((rd_T53 l0 x6_1).f1)] rfl argsOk ?_; (with_reducible refine (selvageref01_Whole.calls ((rd_T53 l0 x6_1).f1) false _ A108.out).mono ?_); rintro e w' ⟨rfl, ⟨nd, rfl⟩⟩; refine ⟨_, rfl, ?_⟩) | (go_at_call 68; (with_reducible refine (selvageref10_old.calls ((rd_T53 l0 x6_1).f0) ((rd_T53 l0 x6_1).f1) t142 _ A133.out).mono ?_); rintro e w148 ⟨rfl, hb⟩; have n0_ := Aside0.mk (blk_below (g := gb129) (o := .cells #[.int .i64 ((rd_T53 l0 x6_1).f0), .string ((rd_T53 l0 x6_1).f1)] 53 (0, 0)) (bkUp BK129.out) hb); have n1_ := Aside0.mk (below_step (belPut) hb); clear BK129 HB; have BK129 := n0_; have HB := n1_; clear n0_ n1_; (try clear hb); (try clear hb2); (try clear hk); (try clear hi); have hcz149_0 : w148.cell? ⟨gb129, 0, none⟩ = some (.int .i64 ((rd_T53 l0 x6_1).f0)) := (blk_cell BK129.out 0).trans rfl; have hcz149_1 : w148.cell? ⟨gb129, 1, none⟩ = some (.string ((rd_T53 l0 x6_1).f1)) := (blk_cell BK129.out 1).trans rfl; have hfz149_0 := blk_frozen BK129.out 0; have hfz149_1 := blk_frozen BK129.out 1) | (go_at_call 69; (with_reducible refine (selvageref10_fresh.calls ((rd_T53 l0 x6_1).f0) ((rd_T53 l0 x6_1).f1) t143 _ A141.out).mono ?_); rintro e w150 ⟨rfl, hb⟩; have n0_ := Aside0.mk (blk_below (g := gb129) (o := .cells #[.int .i64 ((rd_T53 l0 x6_1).f0), .string ((rd_T53 l0 x6_1).f1)] 53 (0, 0)) (bkUp BK129.out) hb); have n1_ := Aside0.mk (below_step (belPut) hb); clear BK129 HB; have BK129 := n0_; have HB := n1_; clear n0_ n1_; (try clear hb); (try clear hb2); (try clear hk); (try clear hi); have hcz151_0 : w150.cell? ⟨gb129, 0, none⟩ = some (.int .i64 ((rd_T53 l0 x6_1).f0)) := (blk_cell BK129.out 0).trans rfl; have hcz151_1 : w150.cell? ⟨gb129, 1, none⟩ = some (.string ((rd_T53 l0 x6_1).f1)) := (blk_cell BK129.out 1).trans rfl; have hfz151_0 := blk_frozen BK129.out 0; have hfz151_1 := blk_frozen BK129.out 1))
     go_roundg kj3
     case measure => have := HK1.out; have := HJ3.out; omega
     case rel => exact ⟨(t142), (t143), ((((rd_T53 l0 x6_1).f0) != 1)), (wrap64 (x6_1 + 1)), eqNow, eqNow, eqNow, eqNow, H', ⟨by have := HK1.out; have := HJ3.out; omega⟩, ⟨belPut⟩⟩
end Go.Proofs.YtecjoofjiockkaaGreatDoor.Pp
