-- Printed by this session's pp.py over the kit's printer, out of the translation. Lean checks it.
import Derived.Test.YtpfhgaaphaalgaaDoorESq
import Derived.Test.YtpfhgaaphaalgaaDoorPp0
import Derived.Test.YtpfhgaaphaalgaaDoorPp1
namespace Go.Proofs.YtpfhgaaphaalgaaDoor.Pp
open Go.RowKit Go.Proofs.YtpfhgaaphaalgaaDoor.Ext Go.Proofs.YtpfhgaaphaalgaaDoorW.PrintWords Go.Proofs.YtpfhgaaphaalgaaDoorW.PrintLast Go.Proofs.YtpfhgaaphaalgaaDoorW.PrintMore
attribute [local go_sem] max2_int min2_int max_two min_two max_three min_three max_four min_four   -- for this text's walks alone
set_option linter.unusedVariables false
set_option linter.unusedSimpArgs false
def selvageref05_Space.f (a0 : Int) : Option (Bool) := if a0 = 9 then (some true) else (if a0 = 11 then (some true) else (if a0 = 12 then (some true) else (if a0 = 13 then (some true) else (some (a0 == 32)))))
set_option maxHeartbeats 8000000 in
set_option maxRecDepth 100000 in
theorem selvageref05_Space.calls (a0 : Int) (r : Bool) (w : World) (h : selvageref05_Space.f a0 = some r) :
  Calls Tryd.prog 36 #[.int .u8 a0] w fun e w' => e = .returned (.bool r) ∧ Drawn0 w w' := by
 have H : (if a0 = 9 then (some true) else (if a0 = 11 then (some true) else (if a0 = 12 then (some true) else (if a0 = 13 then (some true) else (some (a0 == 32)))))) = some r := h
 clear h
 by_cases c2 : a0 = 9
 ·rw [if_pos c2] at H
  have c2b0 : (a0 == 9) = true := beq_iff_eq.mpr c2
  have c2b1 : (a0 != 9) = false := bne_eq_false_iff_eq.mpr c2
  clear c2
  obtain rfl := Option.some.inj H
  go_enter Tryd.func36, Tryd.ntmps36
  go_wp2
  go_ret
  exact ⟨eqFin, drawnNow⟩
 ·rw [if_neg c2] at H
  have c2b0 : (a0 == 9) = false := beq_eq_false_iff_ne.mpr c2
  have c2b1 : (a0 != 9) = true := bne_iff_ne.mpr c2
  by_cases c3 : a0 = 11
  ·rw [if_pos c3] at H
   have c3b0 : (a0 == 11) = true := beq_iff_eq.mpr c3
   have c3b1 : (a0 != 11) = false := bne_eq_false_iff_eq.mpr c3
   clear c3
   obtain rfl := Option.some.inj H
   go_enter Tryd.func36, Tryd.ntmps36
   go_wp2
   go_ret
   exact ⟨eqFin, drawnNow⟩
  ·rw [if_neg c3] at H
   have c3b0 : (a0 == 11) = false := beq_eq_false_iff_ne.mpr c3
   have c3b1 : (a0 != 11) = true := bne_iff_ne.mpr c3
   by_cases c4 : a0 = 12
   ·rw [if_pos c4] at H
    have c4b0 : (a0 == 12) = true := beq_iff_eq.mpr c4
    have c4b1 : (a0 != 12) = false := bne_eq_false_iff_eq.mpr c4
    clear c4
    obtain rfl := Option.some.inj H
    go_enter Tryd.func36, Tryd.ntmps36
    go_wp2
    go_ret
    exact ⟨eqFin, drawnNow⟩
   ·rw [if_neg c4] at H
    have c4b0 : (a0 == 12) = false := beq_eq_false_iff_ne.mpr c4
    have c4b1 : (a0 != 12) = true := bne_iff_ne.mpr c4
    by_cases c5 : a0 = 13
    ·rw [if_pos c5] at H
     have c5b0 : (a0 == 13) = true := beq_iff_eq.mpr c5
     have c5b1 : (a0 != 13) = false := bne_eq_false_iff_eq.mpr c5
     clear c5
     obtain rfl := Option.some.inj H
     go_enter Tryd.func36, Tryd.ntmps36
     go_wp2
     go_ret
     exact ⟨eqFin, drawnNow⟩
    ·rw [if_neg c5] at H
     have c5b0 : (a0 == 13) = false := beq_eq_false_iff_ne.mpr c5
     have c5b1 : (a0 != 13) = true := bne_iff_ne.mpr c5
     obtain rfl := Option.some.inj H
     go_enter Tryd.func36, Tryd.ntmps36
     go_wp2
     go_ret
     exact ⟨eqFin, drawnNow⟩
def selvageref05_runs.l0 : Nat → ByteArray → Bool → List Int → Int → Option (ByteArray)
 | 0, _, _, _, _ => none
 | k + 1, x0, x1, x5, x6 => if x6 < (x0.size : Int) then (if 0 ≤ x6 then ((selvageref05_Space.f (bt x0 x6)).bind fun t127 => (if t127 = true then (if x1 = true then (if x6 = 0 then (if x5.length < 140737488355328 then (selvageref05_runs.l0 k x0 x1 (x5 ++ [32]) (wrap64 (x6 + 1))) else (none)) else (if 0 ≤ (wrap64 (x6 - 1)) then (if (wrap64 (x6 - 1)) < (x0.size : Int) then ((selvageref05_Space.f (bt x0 (wrap64 (x6 - 1)))).bind fun t131 => (if t131 = true then (selvageref05_runs.l0 k x0 x1 x5 (wrap64 (x6 + 1))) else (if x5.length < 140737488355328 then (selvageref05_runs.l0 k x0 x1 (x5 ++ [32]) (wrap64 (x6 + 1))) else (none)))) else (none)) else (none))) else (selvageref05_runs.l0 k x0 x1 x5 (wrap64 (x6 + 1)))) else (if x5.length < 140737488355328 then (selvageref05_runs.l0 k x0 x1 (x5 ++ [bt x0 x6]) (wrap64 (x6 + 1))) else (none)))) else (none)) else (some (strOfNums x5))
def selvageref05_runs.f (k : Nat) (a0 : ByteArray) (a1 : Bool) : Option (ByteArray) := selvageref05_runs.l0 k a0 a1 ([] : List Int) 0
theorem selvageref05_runs.mono_l : ∀ k, (∀ y0 y1 y2 y3, LeO (selvageref05_runs.l0 k y0 y1 y2 y3) (selvageref05_runs.l0 (k + 1) y0 y1 y2 y3))
 | 0 => fun _ _ _ _ r h => by simp [selvageref05_runs.l0] at h
 | k + 1 => by
  have ih0 := selvageref05_runs.mono_l k
  ·intro y0 y1 y2 y3
   unfold selvageref05_runs.l0
   repeat' first
   | (with_reducible exact ih0 _ _ _ _)
   | (with_reducible exact LeO.refl _)
   | (with_reducible exact LeO.none _)
   | (with_reducible refine LeO.ite ?_ ?_)
   | (with_reducible refine LeO.bind ?_ (fun _ => ?_))
   | exact ih0 _ _ _ _
   | exact LeO.none _
   | refine LeO.ite ?_ ?_
   | refine LeO.bind ?_ (fun _ => ?_)
theorem selvageref05_runs.mono : ∀ a0 a1 k, LeO (selvageref05_runs.f k a0 a1) (selvageref05_runs.f (k + 1) a0 a1) := by
 intro a0 a1 k
 have ih0 := selvageref05_runs.mono_l k
 unfold selvageref05_runs.f
 repeat' first
   | (with_reducible exact ih0 _ _ _ _)
   | (with_reducible exact LeO.refl _)
   | (with_reducible exact LeO.none _)
   | (with_reducible refine LeO.ite ?_ ?_)
   | (with_reducible refine LeO.bind ?_ (fun _ => ?_))
   | exact ih0 _ _ _ _
   | exact LeO.none _
   | refine LeO.ite ?_ ?_
   | refine LeO.bind ?_ (fun _ => ?_)
set_option maxHeartbeats 8000000 in
set_option maxRecDepth 100000 in
theorem selvageref05_runs.calls (k : Nat) (a0 : ByteArray) (a1 : Bool) (r : ByteArray) (w : World) (h : selvageref05_runs.f k a0 a1 = some r) :
  Calls Tryd.prog 24 #[.string a0, .bool a1] w fun e w' => e = .returned (.string r) ∧ Below w.heap.size w w' := by
 have HB := Aside0.mk (Below.refl w.heap.size w)
 have H : (selvageref05_runs.l0 k a0 a1 ([] : List Int) 0) = some r := h
 clear h
 have H' := Aside0.mk H
 clear H
 go_enter Tryd.func24, Tryd.ntmps24
 go_wp2
 go_loopg [5, 6] k (fun kq v5 v6 w' => ∃ (x5_1 : List Int) (x6_1 : Int), v6 = .int .i64 x6_1 ∧ Aside0 (selvageref05_runs.l0 kq a0 a1 x5_1 x6_1 = some r) ∧ Aside0 (kq ≤ k) ∧ Aside0 (Kd.R (Kd.int .u8) 5 w' w.heap.size (fun _ => True) v5 x5_1) ∧ Aside0 (Below w.heap.size w w'))
 case atStart => exact ⟨(([] : List Int)), (0), eqNow, H', ⟨Nat.le_refl _⟩, ⟨by first | exact Kd.R_nil _ _ _ _ _ | exact Kd.N_nil _ _ _ _ _ | exact Kd.V_nil _ _ _ _ _ | exact Kd.Q_nil _ _ _ _ _ | exact Kd.S_nil _ _ _ _ _⟩, ⟨belNow⟩⟩
 case round =>
  clear H'
  try clear c2
  try clear p2
  obtain ⟨x5_1, x6_1, rfl, HA, HK1, HO_5, HB⟩ := hrel
  cases gk with
  | zero => exact absurd HA.out (by simp [selvageref05_runs.l0])
  | succ k1 =>
   have H := HA.out
   clear HA
   simp only [selvageref05_runs.l0] at H
   by_cases c3 : x6_1 < (a0.size : Int)
   ·rw [if_pos c3] at H
    have c3b0 : decide (x6_1 < (a0.size : Int)) = true := decide_eq_true c3
    clear c3
    by_cases c4 : 0 ≤ x6_1
    ·rw [if_pos c4] at H
     have c4b0 : decide (0 ≤ x6_1) = true := decide_eq_true c4
     clear c4
     replace H := Option.bind_eq_some_iff.mp H
     obtain ⟨t127, A60, H⟩ := H
     replace H : (if t127 = true then (if a1 = true then (if x6_1 = 0 then (if x5_1.length < 140737488355328 then (selvageref05_runs.l0 k1 a0 a1 (x5_1 ++ [32]) (wrap64 (x6_1 + 1))) else (none)) else (if 0 ≤ (wrap64 (x6_1 - 1)) then (if (wrap64 (x6_1 - 1)) < (a0.size : Int) then ((selvageref05_Space.f (bt a0 (wrap64 (x6_1 - 1)))).bind fun t131 => (if t131 = true then (selvageref05_runs.l0 k1 a0 a1 x5_1 (wrap64 (x6_1 + 1))) else (if x5_1.length < 140737488355328 then (selvageref05_runs.l0 k1 a0 a1 (x5_1 ++ [32]) (wrap64 (x6_1 + 1))) else (none)))) else (none)) else (none))) else (selvageref05_runs.l0 k1 a0 a1 x5_1 (wrap64 (x6_1 + 1)))) else (if x5_1.length < 140737488355328 then (selvageref05_runs.l0 k1 a0 a1 (x5_1 ++ [bt a0 x6_1]) (wrap64 (x6_1 + 1))) else (none))) = some r := H
     have A6 := Aside0.mk A60
     clear A60
     by_cases c7 : t127 = true
     ·subst c7
      have H1 : (if a1 = true then (if x6_1 = 0 then (if x5_1.length < 140737488355328 then (selvageref05_runs.l0 k1 a0 a1 (x5_1 ++ [32]) (wrap64 (x6_1 + 1))) else (none)) else (if 0 ≤ (wrap64 (x6_1 - 1)) then (if (wrap64 (x6_1 - 1)) < (a0.size : Int) then ((selvageref05_Space.f (bt a0 (wrap64 (x6_1 - 1)))).bind fun t131 => (if t131 = true then (selvageref05_runs.l0 k1 a0 a1 x5_1 (wrap64 (x6_1 + 1))) else (if x5_1.length < 140737488355328 then (selvageref05_runs.l0 k1 a0 a1 (x5_1 ++ [32]) (wrap64 (x6_1 + 1))) else (none)))) else (none)) else (none))) else (selvageref05_runs.l0 k1 a0 a1 x5_1 (wrap64 (x6_1 + 1)))) = some r := by rw [if_pos rfl] at H; exact H
      clear H
      have H := H1
      clear H1
      by_cases c8 : a1 = true
      ·subst c8
       have H1 : (if x6_1 = 0 then (if x5_1.length < 140737488355328 then (selvageref05_runs.l0 k1 a0 true (x5_1 ++ [32]) (wrap64 (x6_1 + 1))) else (none)) else (if 0 ≤ (wrap64 (x6_1 - 1)) then (if (wrap64 (x6_1 - 1)) < (a0.size : Int) then ((selvageref05_Space.f (bt a0 (wrap64 (x6_1 - 1)))).bind fun t131 => (if t131 = true then (selvageref05_runs.l0 k1 a0 true x5_1 (wrap64 (x6_1 + 1))) else (if x5_1.length < 140737488355328 then (selvageref05_runs.l0 k1 a0 true (x5_1 ++ [32]) (wrap64 (x6_1 + 1))) else (none)))) else (none)) else (none))) = some r := by rw [if_pos rfl] at H; exact H
       clear H
       have H := H1
       clear H1
       by_cases c9 : x6_1 = 0
       ·rw [if_pos c9] at H
        have c9b0 : (x6_1 == 0) = true := beq_iff_eq.mpr c9
        have c9b1 : (x6_1 != 0) = false := bne_eq_false_iff_eq.mpr c9
        clear c9
        by_cases c10 : x5_1.length < 140737488355328
        ·rw [if_pos c10] at H
         have LMc10 := Aside0.mk c10
         clear c10
         obtain ⟨y128, hy128⟩ : ∃ y_ : List Int, y_ = (x5_1 ++ [32]) := ⟨_, rfl⟩
         replace H : (selvageref05_runs.l0 k1 a0 true y128 (wrap64 (x6_1 + 1))) = some r := by first | (rw [hy128]; with_reducible exact H) | (have H2_ := (Option.bind_some _ _).symm.trans H; rw [hy128]; with_reducible exact H2_) | (have H2_ := (Option.bind_some _ _).symm.trans H; with_reducible exact H2_) | with_reducible exact H | (rw [hy128]; exact H) | exact H
         have Ny128 := Aside0.mk hy128
         clear hy128
         have H' := Aside0.mk H
         clear H
         have p5 : 0 ≤ (x6_1 : Int) := ofDec
         have q5 : x6_1 < (a0.size : Int) := ofDec
         have hx5 := bt_at a0 x6_1
         replace p5 := eq_true p5
         replace q5 := eq_true q5
         go_wp2_with (first | ((with_reducible refine gate_callee (f := 36) rfl ?_); refine goesL_ (some 17) rfl rfl Tryd.func36 (by kernel_rfl) rfl #[.int .u8 (bt a0 x6_1)] rfl argsOk ?_; (with_reducible refine (selvageref05_Space.calls (bt a0 x6_1) true _ A6.out).mono ?_); rintro e w' ⟨rfl, ⟨nd, rfl⟩⟩; refine ⟨_, rfl, ?_⟩) | ((with_reducible refine gate_builtin (b := .append) (xs := #[.tmp 39, .tmp 40]) rfl ?_); at_builtin; refine Kd.R_append (Kd.int .u8) (w0 := w) w.heap.size rfl (.tmp 39) (.tmp 40) 42 5 (.int .u8 0) 1 rfl Tryd.underlying42 info5 rfl (by decide) (by omega) u5 x5_1 32 [.int .u8 32] (fun _ => True) (fun _ => False) rfl rfl ?aP (fun _ hk => hk.elim) ?aF ?aO ?aB ?aS ?aL ?_; (case aP => exact rfl); (case aB => exact belNow); (case aF => exact (fun _ _ => trivial)); (case aO => exact (kdUp HO_5.out)); (case aS => exact (below_size belNow)); (case aL => have := LMc10.out; omega); intro v129 w11 ho hb hg hat; rw [← Ny128.out] at ho; have n0_ := Aside0.mk (hb); have n1_ := Aside0.mk (ho); clear HB; clear HO_5; have HB := n0_; have HO130 := n1_; clear n0_ n1_; clear ho hb hg hat))
         go_roundg k1
         case measure => have := HK1.out; omega
         case rel => exact ⟨(y128), (wrap64 (x6_1 + 1)), eqNow, H', ⟨by have := HK1.out; omega⟩, ⟨by (with_reducible repeat (first | apply Kd.R_alloc | apply Kd.R_drewN | apply Kd.R_drew)); (first | exact HO130.out | exact Kd.R_mono HO130.out (fun k_ h_ h2_ => h_ (h2_.trans ((fun (A_ : Option Addr) (n_ m_ c_ : Nat) => (show (Value.slice A_ n_ c_).ownBlock = (Value.slice A_ m_ c_).ownBlock by cases A_ <;> rfl)) _ _ _ _))))⟩, ⟨belNow⟩⟩
        ·rw [if_neg c10] at H
         exact absurd H (by simp)
       ·rw [if_neg c9] at H
        have c9b0 : (x6_1 == 0) = false := beq_eq_false_iff_ne.mpr c9
        have c9b1 : (x6_1 != 0) = true := bne_iff_ne.mpr c9
        obtain ⟨ji12, hji12⟩ : ∃ j_ : Int, (wrap64 (x6_1 - 1)) = j_ := ⟨_, rfl⟩
        replace H : (if 0 ≤ (ji12) then (if (ji12) < (a0.size : Int) then ((selvageref05_Space.f (bt a0 (ji12))).bind fun t131 => (if t131 = true then (selvageref05_runs.l0 k1 a0 true x5_1 (wrap64 (x6_1 + 1))) else (if x5_1.length < 140737488355328 then (selvageref05_runs.l0 k1 a0 true (x5_1 ++ [32]) (wrap64 (x6_1 + 1))) else (none)))) else (none)) else (none)) = some r := by first | (rw [hji12] at H; exact H) | (simp only [hji12] at H ⊢; exact H)
        (try rw [hji12] at A6)
        have hji12w : (IntKind.i64.wrap (x6_1 - 1)) = ji12 := (i64_w _).trans hji12
        by_cases c13 : 0 ≤ (ji12)
        ·rw [if_pos c13] at H
         have c13b0 : decide (0 ≤ (ji12)) = true := decide_eq_true c13
         clear c13
         by_cases c14 : (ji12) < (a0.size : Int)
         ·rw [if_pos c14] at H
          have c14b0 : decide ((ji12) < (a0.size : Int)) = true := decide_eq_true c14
          clear c14
          replace H := Option.bind_eq_some_iff.mp H
          obtain ⟨t131, A160, H⟩ := H
          replace H : (if t131 = true then (selvageref05_runs.l0 k1 a0 true x5_1 (wrap64 (x6_1 + 1))) else (if x5_1.length < 140737488355328 then (selvageref05_runs.l0 k1 a0 true (x5_1 ++ [32]) (wrap64 (x6_1 + 1))) else (none))) = some r := H
          have A16 := Aside0.mk A160
          clear A160
          by_cases c17 : t131 = true
          ·subst c17
           have H1 : (selvageref05_runs.l0 k1 a0 true x5_1 (wrap64 (x6_1 + 1))) = some r := by rw [if_pos rfl] at H; exact H
           clear H
           have H := H1
           clear H1
           have H' := Aside0.mk H
           clear H
           have p5 : 0 ≤ (x6_1 : Int) := ofDec
           have q5 : x6_1 < (a0.size : Int) := ofDec
           have hx5 := bt_at a0 x6_1
           replace p5 := eq_true p5
           replace q5 := eq_true q5
           go_wp2_with (first | ((with_reducible refine gate_callee (f := 36) rfl ?_); refine goesL_ (some 17) rfl rfl Tryd.func36 (by kernel_rfl) rfl #[.int .u8 (bt a0 x6_1)] rfl argsOk ?_; (with_reducible refine (selvageref05_Space.calls (bt a0 x6_1) true _ A6.out).mono ?_); rintro e w' ⟨rfl, ⟨nd, rfl⟩⟩; refine ⟨_, rfl, ?_⟩; have p15 : 0 ≤ ((ji12) : Int) := ofDec; have q15 : (ji12) < (a0.size : Int) := ofDec; have hx15 := bt_at a0 (ji12); replace p15 := eq_true p15; replace q15 := eq_true q15) | (go_at_call 36; (with_reducible refine (selvageref05_Space.calls (bt a0 (ji12)) true _ A16.out).mono ?_); rintro e w' ⟨rfl, ⟨nd, rfl⟩⟩))
           go_roundg k1
           case measure => have := HK1.out; omega
           case rel => exact ⟨(x5_1), (wrap64 (x6_1 + 1)), eqNow, H', ⟨by have := HK1.out; omega⟩, ⟨by (with_reducible repeat (first | apply Kd.R_alloc | apply Kd.R_drewN | apply Kd.R_drew)); (first | exact HO_5.out | exact Kd.R_mono HO_5.out (fun k_ h_ h2_ => h_ (h2_.trans ((fun (A_ : Option Addr) (n_ m_ c_ : Nat) => (show (Value.slice A_ n_ c_).ownBlock = (Value.slice A_ m_ c_).ownBlock by cases A_ <;> rfl)) _ _ _ _))))⟩, ⟨belNow⟩⟩
          ·replace c17 := Bool.eq_false_iff.mpr c17
           subst c17
           have H1 : (if x5_1.length < 140737488355328 then (selvageref05_runs.l0 k1 a0 true (x5_1 ++ [32]) (wrap64 (x6_1 + 1))) else (none)) = some r := by rw [if_neg (show ¬ (false = true) by decide)] at H; exact H
           clear H
           have H := H1
           clear H1
           by_cases c18 : x5_1.length < 140737488355328
           ·rw [if_pos c18] at H
            have LMc18 := Aside0.mk c18
            clear c18
            obtain ⟨y132, hy132⟩ : ∃ y_ : List Int, y_ = (x5_1 ++ [32]) := ⟨_, rfl⟩
            replace H : (selvageref05_runs.l0 k1 a0 true y132 (wrap64 (x6_1 + 1))) = some r := by first | (rw [hy132]; with_reducible exact H) | (have H2_ := (Option.bind_some _ _).symm.trans H; rw [hy132]; with_reducible exact H2_) | (have H2_ := (Option.bind_some _ _).symm.trans H; with_reducible exact H2_) | with_reducible exact H | (rw [hy132]; exact H) | exact H
            have Ny132 := Aside0.mk hy132
            clear hy132
            have H' := Aside0.mk H
            clear H
            have p5 : 0 ≤ (x6_1 : Int) := ofDec
            have q5 : x6_1 < (a0.size : Int) := ofDec
            have hx5 := bt_at a0 x6_1
            replace p5 := eq_true p5
            replace q5 := eq_true q5
            go_wp2_with (first | ((with_reducible refine gate_callee (f := 36) rfl ?_); refine goesL_ (some 17) rfl rfl Tryd.func36 (by kernel_rfl) rfl #[.int .u8 (bt a0 x6_1)] rfl argsOk ?_; (with_reducible refine (selvageref05_Space.calls (bt a0 x6_1) true _ A6.out).mono ?_); rintro e w' ⟨rfl, ⟨nd, rfl⟩⟩; refine ⟨_, rfl, ?_⟩; have p15 : 0 ≤ ((ji12) : Int) := ofDec; have q15 : (ji12) < (a0.size : Int) := ofDec; have hx15 := bt_at a0 (ji12); replace p15 := eq_true p15; replace q15 := eq_true q15) | (go_at_call 36; (with_reducible refine (selvageref05_Space.calls (bt a0 (ji12)) false _ A16.out).mono ?_); rintro e w' ⟨rfl, ⟨nd, rfl⟩⟩) | ((with_reducible refine gate_builtin (b := .append) (xs := #[.tmp 39, .tmp 40]) rfl ?_); at_builtin; refine Kd.R_append (Kd.int .u8) (w0 := w) w.heap.size rfl (.tmp 39) (.tmp 40) 42 5 (.int .u8 0) 1 rfl Tryd.underlying42 info5 rfl (by decide) (by omega) u5 x5_1 32 [.int .u8 32] (fun _ => True) (fun _ => False) rfl rfl ?aP (fun _ hk => hk.elim) ?aF ?aO ?aB ?aS ?aL ?_; (case aP => exact rfl); (case aB => exact belNow); (case aF => exact (fun _ _ => trivial)); (case aO => exact (kdUp HO_5.out)); (case aS => exact (below_size belNow)); (case aL => have := LMc18.out; omega); intro v133 w19 ho hb hg hat; rw [← Ny132.out] at ho; have n0_ := Aside0.mk (hb); have n1_ := Aside0.mk (ho); clear HB; clear HO_5; have HB := n0_; have HO134 := n1_; clear n0_ n1_; clear ho hb hg hat))
            go_roundg k1
            case measure => have := HK1.out; omega
            case rel => exact ⟨(y132), (wrap64 (x6_1 + 1)), eqNow, H', ⟨by have := HK1.out; omega⟩, ⟨by (with_reducible repeat (first | apply Kd.R_alloc | apply Kd.R_drewN | apply Kd.R_drew)); (first | exact HO134.out | exact Kd.R_mono HO134.out (fun k_ h_ h2_ => h_ (h2_.trans ((fun (A_ : Option Addr) (n_ m_ c_ : Nat) => (show (Value.slice A_ n_ c_).ownBlock = (Value.slice A_ m_ c_).ownBlock by cases A_ <;> rfl)) _ _ _ _))))⟩, ⟨belNow⟩⟩
           ·rw [if_neg c18] at H
            exact absurd H (by simp)
         ·rw [if_neg c14] at H
          exact absurd H (by simp)
        ·rw [if_neg c13] at H
         exact absurd H (by simp)
      ·replace c8 := Bool.eq_false_iff.mpr c8
       subst c8
       have H1 : (selvageref05_runs.l0 k1 a0 false x5_1 (wrap64 (x6_1 + 1))) = some r := by rw [if_neg (show ¬ (false = true) by decide)] at H; exact H
       clear H
       have H := H1
       clear H1
       have H' := Aside0.mk H
       clear H
       have p5 : 0 ≤ (x6_1 : Int) := ofDec
       have q5 : x6_1 < (a0.size : Int) := ofDec
       have hx5 := bt_at a0 x6_1
       replace p5 := eq_true p5
       replace q5 := eq_true q5
       go_wp2_with (first | ((with_reducible refine gate_callee (f := 36) rfl ?_); refine goesL_ (some 17) rfl rfl Tryd.func36 (by kernel_rfl) rfl #[.int .u8 (bt a0 x6_1)] rfl argsOk ?_; (with_reducible refine (selvageref05_Space.calls (bt a0 x6_1) true _ A6.out).mono ?_); rintro e w' ⟨rfl, ⟨nd, rfl⟩⟩; refine ⟨_, rfl, ?_⟩))
       go_roundg k1
       case measure => have := HK1.out; omega
       case rel => exact ⟨(x5_1), (wrap64 (x6_1 + 1)), eqNow, H', ⟨by have := HK1.out; omega⟩, ⟨by (with_reducible repeat (first | apply Kd.R_alloc | apply Kd.R_drewN | apply Kd.R_drew)); (first | exact HO_5.out | exact Kd.R_mono HO_5.out (fun k_ h_ h2_ => h_ (h2_.trans ((fun (A_ : Option Addr) (n_ m_ c_ : Nat) => (show (Value.slice A_ n_ c_).ownBlock = (Value.slice A_ m_ c_).ownBlock by cases A_ <;> rfl)) _ _ _ _))))⟩, ⟨belNow⟩⟩
     ·replace c7 := Bool.eq_false_iff.mpr c7
      subst c7
      have H1 : (if x5_1.length < 140737488355328 then (selvageref05_runs.l0 k1 a0 a1 (x5_1 ++ [bt a0 x6_1]) (wrap64 (x6_1 + 1))) else (none)) = some r := by rw [if_neg (show ¬ (false = true) by decide)] at H; exact H
      clear H
      have H := H1
      clear H1
      by_cases c21 : x5_1.length < 140737488355328
      ·rw [if_pos c21] at H
       have LMc21 := Aside0.mk c21
       clear c21
       obtain ⟨y135, hy135⟩ : ∃ y_ : List Int, y_ = (x5_1 ++ [bt a0 x6_1]) := ⟨_, rfl⟩
       replace H : (selvageref05_runs.l0 k1 a0 a1 y135 (wrap64 (x6_1 + 1))) = some r := by first | (rw [hy135]; with_reducible exact H) | (have H2_ := (Option.bind_some _ _).symm.trans H; rw [hy135]; with_reducible exact H2_) | (have H2_ := (Option.bind_some _ _).symm.trans H; with_reducible exact H2_) | with_reducible exact H | (rw [hy135]; exact H) | exact H
       have Ny135 := Aside0.mk hy135
       clear hy135
       have H' := Aside0.mk H
       clear H
       have p5 : 0 ≤ (x6_1 : Int) := ofDec
       have q5 : x6_1 < (a0.size : Int) := ofDec
       have hx5 := bt_at a0 x6_1
       replace p5 := eq_true p5
       replace q5 := eq_true q5
       go_wp2_with (first | ((with_reducible refine gate_callee (f := 36) rfl ?_); refine goesL_ (some 17) rfl rfl Tryd.func36 (by kernel_rfl) rfl #[.int .u8 (bt a0 x6_1)] rfl argsOk ?_; (with_reducible refine (selvageref05_Space.calls (bt a0 x6_1) false _ A6.out).mono ?_); rintro e w' ⟨rfl, ⟨nd, rfl⟩⟩; refine ⟨_, rfl, ?_⟩; have p20 : 0 ≤ (x6_1 : Int) := ofDec; have q20 : x6_1 < (a0.size : Int) := ofDec; have hx20 := bt_at a0 x6_1; replace p20 := eq_true p20; replace q20 := eq_true q20) | ((with_reducible refine gate_builtin (b := .append) (xs := #[.tmp 19, .tmp 23]) rfl ?_); at_builtin; refine Kd.R_append (Kd.int .u8) (w0 := w) w.heap.size rfl (.tmp 19) (.tmp 23) 42 5 (.int .u8 0) 1 rfl Tryd.underlying42 info5 rfl (by decide) (by omega) u5 x5_1 (bt a0 x6_1) [.int .u8 (bt a0 x6_1)] (fun _ => True) (fun _ => False) rfl rfl ?aP (fun _ hk => hk.elim) ?aF ?aO ?aB ?aS ?aL ?_; (case aP => exact rfl); (case aB => exact belNow); (case aF => exact (fun _ _ => trivial)); (case aO => exact (kdUp HO_5.out)); (case aS => exact (below_size belNow)); (case aL => have := LMc21.out; omega); intro v136 w22 ho hb hg hat; rw [← Ny135.out] at ho; have n0_ := Aside0.mk (hb); have n1_ := Aside0.mk (ho); clear HB; clear HO_5; have HB := n0_; have HO137 := n1_; clear n0_ n1_; clear ho hb hg hat))
       go_roundg k1
       case measure => have := HK1.out; omega
       case rel => exact ⟨(y135), (wrap64 (x6_1 + 1)), eqNow, H', ⟨by have := HK1.out; omega⟩, ⟨by (with_reducible repeat (first | apply Kd.R_alloc | apply Kd.R_drewN | apply Kd.R_drew)); (first | exact HO137.out | exact Kd.R_mono HO137.out (fun k_ h_ h2_ => h_ (h2_.trans ((fun (A_ : Option Addr) (n_ m_ c_ : Nat) => (show (Value.slice A_ n_ c_).ownBlock = (Value.slice A_ m_ c_).ownBlock by cases A_ <;> rfl)) _ _ _ _))))⟩, ⟨belNow⟩⟩
      ·rw [if_neg c21] at H
       exact absurd H (by simp)
    ·rw [if_neg c4] at H
     exact absurd H (by simp)
   ·rw [if_neg c3] at H
    have c3b0 : decide (x6_1 < (a0.size : Int)) = false := decide_eq_false c3
    clear c3
    obtain rfl := Option.some.inj H
    have hcv23 := own_string (P := Tryd.prog) Tryd.underlying42 Tryd.underlying5 Tryd.underlying9 (Kd.own_of_R HO_5.out)
    have hcq23 := fun n_ : Nat => own_string (P := Tryd.prog) Tryd.underlying42 Tryd.underlying5 Tryd.underlying9 (Kd.own_of_R (Kd.R_drewN HO_5.out n_))
    go_wp2
    go_ret
    exact ⟨eqEnd, belNow⟩
def selvageref05_tail.l0 : Nat → ByteArray → Option (ByteArray)
 | 0, _ => none
 | k + 1, x0 => if (x0.size : Int) > 0 then (if 0 ≤ (wrap64 ((x0.size : Int) - 1)) then (if (wrap64 ((x0.size : Int) - 1)) < (x0.size : Int) then ((selvageref05_Space.f (bt x0 (wrap64 ((x0.size : Int) - 1)))).bind fun t138 => (if t138 = true then (if (wrap64 ((x0.size : Int) - 1)) ≤ (x0.size : Int) then (selvageref05_tail.l0 k (x0.extract 0 ((wrap64 ((x0.size : Int) - 1)) : Int).toNat)) else (none)) else (some x0))) else (none)) else (none)) else (some x0)
def selvageref05_tail.f (k : Nat) (a0 : ByteArray) : Option (ByteArray) := selvageref05_tail.l0 k a0
theorem selvageref05_tail.mono_l : ∀ k, (∀ y0, LeO (selvageref05_tail.l0 k y0) (selvageref05_tail.l0 (k + 1) y0))
 | 0 => fun _ r h => by simp [selvageref05_tail.l0] at h
 | k + 1 => by
  have ih0 := selvageref05_tail.mono_l k
  ·intro y0
   unfold selvageref05_tail.l0
   repeat' first
   | (with_reducible exact ih0 _)
   | (with_reducible exact LeO.refl _)
   | (with_reducible exact LeO.none _)
   | (with_reducible refine LeO.ite ?_ ?_)
   | (with_reducible refine LeO.bind ?_ (fun _ => ?_))
   | exact ih0 _
   | exact LeO.none _
   | refine LeO.ite ?_ ?_
   | refine LeO.bind ?_ (fun _ => ?_)
theorem selvageref05_tail.mono : ∀ a0 k, LeO (selvageref05_tail.f k a0) (selvageref05_tail.f (k + 1) a0) := by
 intro a0 k
 have ih0 := selvageref05_tail.mono_l k
 unfold selvageref05_tail.f
 repeat' first
   | (with_reducible exact ih0 _)
   | (with_reducible exact LeO.refl _)
   | (with_reducible exact LeO.none _)
   | (with_reducible refine LeO.ite ?_ ?_)
   | (with_reducible refine LeO.bind ?_ (fun _ => ?_))
   | exact ih0 _
   | exact LeO.none _
   | refine LeO.ite ?_ ?_
   | refine LeO.bind ?_ (fun _ => ?_)
set_option maxHeartbeats 8000000 in
set_option maxRecDepth 100000 in
theorem selvageref05_tail.calls (k : Nat) (a0 : ByteArray) (r : ByteArray) (w : World) (h : selvageref05_tail.f k a0 = some r) :
  Calls Tryd.prog 25 #[.string a0] w fun e w' => e = .returned (.string r) ∧ Drawn0 w w' := by
 have H : (selvageref05_tail.l0 k a0) = some r := h
 clear h
 have H' := Aside0.mk H
 clear H
 go_enter Tryd.func25, Tryd.ntmps25
 go_wp2
 go_loopg [0] k (fun kq v0 w' => ∃ (x0_1 : ByteArray), v0 = .string x0_1 ∧ Aside0 (selvageref05_tail.l0 kq x0_1 = some r) ∧ Aside0 (kq ≤ k) ∧ Drawn0 w w')
 case atStart => exact ⟨(a0), eqNow, H', ⟨Nat.le_refl _⟩, drawnNow⟩
 case round =>
  clear H'
  obtain ⟨x0_1, rfl, HA, HK1, ⟨m1, rfl⟩⟩ := hrel
  cases gk with
  | zero => exact absurd HA.out (by simp [selvageref05_tail.l0])
  | succ k1 =>
   have H := HA.out
   clear HA
   simp only [selvageref05_tail.l0] at H
   by_cases c2 : (x0_1.size : Int) > 0
   ·rw [if_pos c2] at H
    have c2b0 : decide (0 < (x0_1.size : Int)) = true := decide_eq_true c2
    have c2b1 : decide (0 < x0_1.size) = true := decide_eq_true (by omega)
    clear c2
    obtain ⟨ji3, hji3⟩ : ∃ j_ : Int, (wrap64 ((x0_1.size : Int) - 1)) = j_ := ⟨_, rfl⟩
    replace H : (if 0 ≤ (ji3) then (if (ji3) < (x0_1.size : Int) then ((selvageref05_Space.f (bt x0_1 (ji3))).bind fun t138 => (if t138 = true then (if (ji3) ≤ (x0_1.size : Int) then (selvageref05_tail.l0 k1 (x0_1.extract 0 ((ji3) : Int).toNat)) else (none)) else (some x0_1))) else (none)) else (none)) = some r := by first | (rw [hji3] at H; exact H) | (simp only [hji3] at H ⊢; exact H)
    have hji3w : (IntKind.i64.wrap ((x0_1.size : Int) - 1)) = ji3 := (i64_w _).trans hji3
    by_cases c4 : 0 ≤ (ji3)
    ·rw [if_pos c4] at H
     have c4b0 : decide (0 ≤ (ji3)) = true := decide_eq_true c4
     clear c4
     by_cases c5 : (ji3) < (x0_1.size : Int)
     ·rw [if_pos c5] at H
      have c5b0 : decide ((ji3) < (x0_1.size : Int)) = true := decide_eq_true c5
      clear c5
      replace H := Option.bind_eq_some_iff.mp H
      obtain ⟨t138, A70, H⟩ := H
      replace H : (if t138 = true then (if (ji3) ≤ (x0_1.size : Int) then (selvageref05_tail.l0 k1 (x0_1.extract 0 ((ji3) : Int).toNat)) else (none)) else (some x0_1)) = some r := H
      have A7 := Aside0.mk A70
      clear A70
      by_cases c8 : t138 = true
      ·subst c8
       have H1 : (if (ji3) ≤ (x0_1.size : Int) then (selvageref05_tail.l0 k1 (x0_1.extract 0 ((ji3) : Int).toNat)) else (none)) = some r := by rw [if_pos rfl] at H; exact H
       clear H
       have H := H1
       clear H1
       have c9b0 := eq_true (ofDec : 0 ≤ (ji3))
       by_cases c10 : (ji3) ≤ (x0_1.size : Int)
       ·rw [if_pos c10] at H
        have c10b0 := eq_true c10
        have c10b1 : decide ((ji3) ≤ (x0_1.size : Int)) = true := decide_eq_true c10
        clear c10
        have H' := Aside0.mk H
        clear H
        have p6 : 0 ≤ ((ji3) : Int) := ofDec
        have q6 : (ji3) < (x0_1.size : Int) := ofDec
        have hx6 := bt_at x0_1 (ji3)
        replace p6 := eq_true p6
        replace q6 := eq_true q6
        go_wp2_with (first | (go_at_call 36; (with_reducible refine (selvageref05_Space.calls (bt x0_1 (ji3)) true _ A7.out).mono ?_); rintro e w' ⟨rfl, ⟨nd, rfl⟩⟩))
        go_roundg k1
        case measure => have := HK1.out; omega
        case rel => exact ⟨(x0_1.extract 0 ((ji3) : Int).toNat), (by first | rfl | (simp; done) | (simp only [← hji3] <;> (first | rfl | simp)) | (simp [*]; done) | (simp [*] <;> rfl)), H', ⟨by have := HK1.out; omega⟩, drawnNow⟩
       ·rw [if_neg c10] at H
        exact absurd H (by simp)
      ·replace c8 := Bool.eq_false_iff.mpr c8
       subst c8
       have H1 : (some x0_1) = some r := by rw [if_neg (show ¬ (false = true) by decide)] at H; exact H
       clear H
       have H := H1
       clear H1
       obtain rfl := Option.some.inj H
       have p6 : 0 ≤ ((ji3) : Int) := ofDec
       have q6 : (ji3) < (x0_1.size : Int) := ofDec
       have hx6 := bt_at x0_1 (ji3)
       replace p6 := eq_true p6
       replace q6 := eq_true q6
       go_wp2_with (first | (go_at_call 36; (with_reducible refine (selvageref05_Space.calls (bt x0_1 (ji3)) false _ A7.out).mono ?_); rintro e w' ⟨rfl, ⟨nd, rfl⟩⟩))
       go_ret
       exact ⟨by first | rfl | (simp; done) | (simp only [← hji3] <;> (first | rfl | simp)) | (simp [*]; done) | (simp [*] <;> rfl) | (simp only [i64_w, i32_w, u8_w]; first | rfl | (simp [errW_none, errW_some] <;> rfl)) | (simp only [bne_nil, beq_nil]; first | rfl | (simp <;> rfl)), drawnNow⟩
     ·rw [if_neg c5] at H
      exact absurd H (by simp)
    ·rw [if_neg c4] at H
     exact absurd H (by simp)
   ·rw [if_neg c2] at H
    have c2b0 : decide (0 < (x0_1.size : Int)) = false := decide_eq_false c2
    have c2b1 : decide (0 < x0_1.size) = false := decide_eq_false (by omega)
    clear c2
    obtain rfl := Option.some.inj H
    go_wp2
    go_ret
    exact ⟨eqFin, drawnNow⟩
mutual
def selvageref05_Key.j0 : Nat → ByteArray → Int → Bool → Option (ByteArray)
 | 0, _, _, _ => none
 | k + 1, x0, x1, x15 => if x15 = true then (some x0) else ((selvageref01_Bare.f x0).bind fun t139 => (if 0 ≤ (t139.size : Int) then (if (t139.size : Int) ≤ (x0.size : Int) then (if (Int.tmod (wrap64 (Int.tdiv x1 2)) 2) = 1 then ((selvageref05_runs.f k t139 false).bind fun t140 => (selvageref05_Key.j1 k x1 t140 (x0.extract t139.size x0.size))) else (if (Int.tmod (wrap64 (Int.tdiv x1 4)) 2) = 1 then ((selvageref05_runs.f k t139 true).bind fun t141 => ((selvageref05_tail.f k t141).bind fun t142 => (selvageref05_Key.j1 k x1 t142 (x0.extract t139.size x0.size)))) else (if (Int.tmod (wrap64 (Int.tdiv x1 8)) 2) = 1 then ((selvageref05_tail.f k t139).bind fun t143 => (selvageref05_Key.j1 k x1 t143 (x0.extract t139.size x0.size))) else (selvageref05_Key.j1 k x1 t139 (x0.extract t139.size x0.size))))) else (none)) else (none)))
def selvageref05_Key.j1 : Nat → Int → ByteArray → ByteArray → Option (ByteArray)
 | 0, _, _, _ => none
 | k + 1, x1, x5, x6 => if (Int.tmod x1 2) = 1 then (selvageref05_Key.l0 k x5 x6 ([] : List Int) 0) else (if x5.size + x6.size ≤ 9223372036854775807 then (some (x5 ++ x6)) else (none))
def selvageref05_Key.l0 : Nat → ByteArray → ByteArray → List Int → Int → Option (ByteArray)
 | 0, _, _, _, _ => none
 | k + 1, x5, x6, x7, x8 => if x8 < (x5.size : Int) then (if 0 ≤ x8 then (if (bt x5 x8) ≥ 65 then (if (bt x5 x8) ≤ 90 then (if x7.length < 140737488355328 then (selvageref05_Key.l0 k x5 x6 (x7 ++ [((bt x5 x8) + 32) % 256]) (wrap64 (x8 + 1))) else (none)) else (if x7.length < 140737488355328 then (selvageref05_Key.l0 k x5 x6 (x7 ++ [bt x5 x8]) (wrap64 (x8 + 1))) else (none))) else (if x7.length < 140737488355328 then (selvageref05_Key.l0 k x5 x6 (x7 ++ [bt x5 x8]) (wrap64 (x8 + 1))) else (none))) else (none)) else (if (strOfNums x7).size + x6.size ≤ 9223372036854775807 then (some ((strOfNums x7) ++ x6)) else (none))
end
def selvageref05_Key.f (k : Nat) (a0 : ByteArray) (a1 : Int) : Option (ByteArray) := if a1 < 0 then (selvageref05_Key.j0 k a0 a1 true) else (selvageref05_Key.j0 k a0 a1 (decide (a1 > 15)))
theorem selvageref05_Key.mono_l : ∀ k, (∀ y0 y1 y2, LeO (selvageref05_Key.j0 k y0 y1 y2) (selvageref05_Key.j0 (k + 1) y0 y1 y2)) ∧ (∀ y0 y1 y2, LeO (selvageref05_Key.j1 k y0 y1 y2) (selvageref05_Key.j1 (k + 1) y0 y1 y2)) ∧ (∀ y0 y1 y2 y3, LeO (selvageref05_Key.l0 k y0 y1 y2 y3) (selvageref05_Key.l0 (k + 1) y0 y1 y2 y3))
 | 0 => ⟨fun _ _ _ r h => by simp [selvageref05_Key.j0] at h, fun _ _ _ r h => by simp [selvageref05_Key.j1] at h, fun _ _ _ _ r h => by simp [selvageref05_Key.l0] at h⟩
 | k + 1 => by
  obtain ⟨ih0, ih1, ih2⟩ := selvageref05_Key.mono_l k
  refine ⟨?_, ?_, ?_⟩
  ·intro y0 y1 y2
   unfold selvageref05_Key.j0
   repeat' first
   | (with_reducible exact ih0 _ _ _)
   | (with_reducible exact ih1 _ _ _)
   | (with_reducible exact ih2 _ _ _ _)
   | (with_reducible exact selvageref05_runs.mono _ _ _)
   | (with_reducible exact selvageref05_tail.mono _ _)
   | (with_reducible exact LeO.refl _)
   | (with_reducible exact LeO.none _)
   | (with_reducible refine LeO.ite ?_ ?_)
   | (with_reducible refine LeO.bind ?_ (fun _ => ?_))
   | exact ih0 _ _ _
   | exact ih1 _ _ _
   | exact ih2 _ _ _ _
   | exact selvageref05_runs.mono _ _ _
   | exact selvageref05_tail.mono _ _
   | exact LeO.none _
   | refine LeO.ite ?_ ?_
   | refine LeO.bind ?_ (fun _ => ?_)
  ·intro y0 y1 y2
   unfold selvageref05_Key.j1
   repeat' first
   | (with_reducible exact ih0 _ _ _)
   | (with_reducible exact ih1 _ _ _)
   | (with_reducible exact ih2 _ _ _ _)
   | (with_reducible exact selvageref05_runs.mono _ _ _)
   | (with_reducible exact selvageref05_tail.mono _ _)
   | (with_reducible exact LeO.refl _)
   | (with_reducible exact LeO.none _)
   | (with_reducible refine LeO.ite ?_ ?_)
   | (with_reducible refine LeO.bind ?_ (fun _ => ?_))
   | exact ih0 _ _ _
   | exact ih1 _ _ _
   | exact ih2 _ _ _ _
   | exact selvageref05_runs.mono _ _ _
   | exact selvageref05_tail.mono _ _
   | exact LeO.none _
   | refine LeO.ite ?_ ?_
   | refine LeO.bind ?_ (fun _ => ?_)
  ·intro y0 y1 y2 y3
   unfold selvageref05_Key.l0
   repeat' first
   | (with_reducible exact ih0 _ _ _)
   | (with_reducible exact ih1 _ _ _)
   | (with_reducible exact ih2 _ _ _ _)
   | (with_reducible exact selvageref05_runs.mono _ _ _)
   | (with_reducible exact selvageref05_tail.mono _ _)
   | (with_reducible exact LeO.refl _)
   | (with_reducible exact LeO.none _)
   | (with_reducible refine LeO.ite ?_ ?_)
   | (with_reducible refine LeO.bind ?_ (fun _ => ?_))
   | exact ih0 _ _ _
   | exact ih1 _ _ _
   | exact ih2 _ _ _ _
   | exact selvageref05_runs.mono _ _ _
   | exact selvageref05_tail.mono _ _
   | exact LeO.none _
   | refine LeO.ite ?_ ?_
   | refine LeO.bind ?_ (fun _ => ?_)
theorem selvageref05_Key.mono : ∀ a0 a1 k, LeO (selvageref05_Key.f k a0 a1) (selvageref05_Key.f (k + 1) a0 a1) := by
 intro a0 a1 k
 obtain ⟨ih0, ih1, ih2⟩ := selvageref05_Key.mono_l k
 unfold selvageref05_Key.f
 repeat' first
   | (with_reducible exact ih0 _ _ _)
   | (with_reducible exact ih1 _ _ _)
   | (with_reducible exact ih2 _ _ _ _)
   | (with_reducible exact selvageref05_runs.mono _ _ _)
   | (with_reducible exact selvageref05_tail.mono _ _)
   | (with_reducible exact LeO.refl _)
   | (with_reducible exact LeO.none _)
   | (with_reducible refine LeO.ite ?_ ?_)
   | (with_reducible refine LeO.bind ?_ (fun _ => ?_))
   | exact ih0 _ _ _
   | exact ih1 _ _ _
   | exact ih2 _ _ _ _
   | exact selvageref05_runs.mono _ _ _
   | exact selvageref05_tail.mono _ _
   | exact LeO.none _
   | refine LeO.ite ?_ ?_
   | refine LeO.bind ?_ (fun _ => ?_)
set_option maxHeartbeats 80000000 in
set_option maxRecDepth 100000 in
theorem selvageref05_Key.calls (k : Nat) (a0 : ByteArray) (a1 : Int) (r : ByteArray) (w : World) (h : selvageref05_Key.f k a0 a1 = some r) :
  Calls Tryd.prog 9 #[.string a0, .int .i64 a1] w fun e w' => e = .returned (.string r) ∧ Below w.heap.size w w' := by
 have HB := Aside0.mk (Below.refl w.heap.size w)
 have H : (if a1 < 0 then (selvageref05_Key.j0 k a0 a1 true) else (selvageref05_Key.j0 k a0 a1 (decide (a1 > 15)))) = some r := h
 clear h
 have HC3 := Aside0.mk H
 clear H
 go_enter Tryd.func9, Tryd.ntmps9
 try simp only [List.append_eq, List.cons_append, List.nil_append]
 go_upto_region 1 with (fail)
 go_cut [15] (fun v15 wc => ∃ (kq : Nat) (x15_2 : Bool), v15 = .bool x15_2 ∧ Aside0 (selvageref05_Key.j0 kq a0 a1 x15_2 = some r) ∧ Aside0 (kq ≤ k) ∧ Aside0 (Below w.heap.size w wc))
 case first =>
  have H := HC3.out
  clear HC3
  by_cases c4 : a1 < 0
  ·rw [if_pos c4] at H
   have c4b0 : decide (a1 < 0) = true := decide_eq_true c4
   clear c4
   (first | rw [c4b0] | (simp only [i64_w, i32_w]; rw [c4b0]) | skip)
   have H' := Aside0.mk H
   clear H
   go_wp2
   go_meet
   case rel => exact ⟨_, (true), eqNow, H', ⟨by first | omega | exact Nat.le_refl _⟩, ⟨belNow⟩⟩
  ·rw [if_neg c4] at H
   have c4b0 : decide (a1 < 0) = false := decide_eq_false c4
   clear c4
   (first | rw [c4b0] | (simp only [i64_w, i32_w]; rw [c4b0]) | skip)
   have H' := Aside0.mk H
   clear H
   go_wp2
   go_meet
   case rel => exact ⟨_, (decide (a1 > 15)), eqNow, H', ⟨by first | omega | exact Nat.le_refl _⟩, ⟨belNow⟩⟩
 case rest =>
  clear HC3
  try clear p2
  try clear c4
  try clear c4b0
  obtain ⟨kq, x15_2, rfl, HA, HJ2, HB⟩ := hcut
  cases kq with
  | zero => exact absurd HA.out (by simp [selvageref05_Key.j0])
  | succ kj2 =>
   have H := HA.out
   clear HA
   simp only [selvageref05_Key.j0] at H
   by_cases c5 : x15_2 = true
   ·subst c5
    have H1 : (some a0) = some r := by rw [if_pos rfl] at H; exact H
    clear H
    have H := H1
    clear H1
    obtain rfl := Option.some.inj H
    go_wp2
    go_ret
    exact ⟨eqEnd, belNow⟩
   ·replace c5 := Bool.eq_false_iff.mpr c5
    subst c5
    have H1 : ((selvageref01_Bare.f a0).bind fun t139 => (if 0 ≤ (t139.size : Int) then (if (t139.size : Int) ≤ (a0.size : Int) then (if (Int.tmod (wrap64 (Int.tdiv a1 2)) 2) = 1 then ((selvageref05_runs.f kj2 t139 false).bind fun t140 => (selvageref05_Key.j1 kj2 a1 t140 (a0.extract t139.size a0.size))) else (if (Int.tmod (wrap64 (Int.tdiv a1 4)) 2) = 1 then ((selvageref05_runs.f kj2 t139 true).bind fun t141 => ((selvageref05_tail.f kj2 t141).bind fun t142 => (selvageref05_Key.j1 kj2 a1 t142 (a0.extract t139.size a0.size)))) else (if (Int.tmod (wrap64 (Int.tdiv a1 8)) 2) = 1 then ((selvageref05_tail.f kj2 t139).bind fun t143 => (selvageref05_Key.j1 kj2 a1 t143 (a0.extract t139.size a0.size))) else (selvageref05_Key.j1 kj2 a1 t139 (a0.extract t139.size a0.size))))) else (none)) else (none))) = some r := by rw [if_neg (show ¬ (false = true) by decide)] at H; exact H
    clear H
    have H := H1
    clear H1
    replace H := Option.bind_eq_some_iff.mp H
    obtain ⟨t139, A60, H⟩ := H
    replace H : (if 0 ≤ (t139.size : Int) then (if (t139.size : Int) ≤ (a0.size : Int) then (if (Int.tmod (wrap64 (Int.tdiv a1 2)) 2) = 1 then ((selvageref05_runs.f kj2 t139 false).bind fun t140 => (selvageref05_Key.j1 kj2 a1 t140 (a0.extract t139.size a0.size))) else (if (Int.tmod (wrap64 (Int.tdiv a1 4)) 2) = 1 then ((selvageref05_runs.f kj2 t139 true).bind fun t141 => ((selvageref05_tail.f kj2 t141).bind fun t142 => (selvageref05_Key.j1 kj2 a1 t142 (a0.extract t139.size a0.size)))) else (if (Int.tmod (wrap64 (Int.tdiv a1 8)) 2) = 1 then ((selvageref05_tail.f kj2 t139).bind fun t143 => (selvageref05_Key.j1 kj2 a1 t143 (a0.extract t139.size a0.size))) else (selvageref05_Key.j1 kj2 a1 t139 (a0.extract t139.size a0.size))))) else (none)) else (none)) = some r := H
    have A6 := Aside0.mk A60
    clear A60
    by_cases c7 : 0 ≤ (t139.size : Int)
    ·rw [if_pos c7] at H
     have c7b0 := eq_true c7
     have c7b1 : decide (0 ≤ (t139.size : Int)) = true := decide_eq_true c7
     clear c7
     by_cases c8 : (t139.size : Int) ≤ (a0.size : Int)
     ·rw [if_pos c8] at H
      have c8b0 := eq_true c8
      have c8b1 : decide ((t139.size : Int) ≤ (a0.size : Int)) = true := decide_eq_true c8
      clear c8
      have HC9 := Aside0.mk H
      clear H
      go_upto_block 0 with (first | ((with_reducible refine gate_callee (f := 23) rfl ?_); refine goesL_ (some 18) rfl rfl Tryd.func23 (by kernel_rfl) rfl #[.string a0] rfl argsOk ?_; (with_reducible refine (selvageref01_Bare.calls a0 t139 _ A6.out).mono ?_); rintro e w' ⟨rfl, ⟨nd, rfl⟩⟩; refine ⟨_, rfl, ?_⟩))
      (try simp only [Act.put, List.setIfInBounds_toArray, List.set_cons_zero, List.set_cons_succ])
      go_cut [5] (fun v5 wc => ∃ (kq : Nat) (x5_8 : ByteArray), v5 = .string x5_8 ∧ Aside0 (selvageref05_Key.j1 kq a1 x5_8 (a0.extract t139.size a0.size) = some r) ∧ Aside0 (kq ≤ kj2) ∧ Aside0 (Below w.heap.size w wc))
      case first =>
       have H := HC9.out
       clear HC9
       by_cases c10 : (Int.tmod (wrap64 (Int.tdiv a1 2)) 2) = 1
       ·rw [if_pos c10] at H
        have c10b0 : ((Int.tmod (wrap64 (Int.tdiv a1 2)) 2) == 1) = true := beq_iff_eq.mpr c10
        have c10b1 : ((Int.tmod (wrap64 (Int.tdiv a1 2)) 2) != 1) = false := bne_eq_false_iff_eq.mpr c10
        clear c10
        (first | rw [c10b0] | (simp only [i64_w, i32_w]; rw [c10b0]) | skip)
        replace H := Option.bind_eq_some_iff.mp H
        obtain ⟨t140, A110, H⟩ := H
        replace H : (selvageref05_Key.j1 kj2 a1 t140 (a0.extract t139.size a0.size)) = some r := H
        have A11 := Aside0.mk A110
        clear A110
        have H' := Aside0.mk H
        clear H
        go_wp2_with (first | ((with_reducible refine gate_callee (f := 24) rfl ?_); refine goesL_ (some 29) rfl rfl Tryd.func24 (by kernel_rfl) rfl #[.string t139, .bool false] rfl argsOk ?_; (with_reducible refine (selvageref05_runs.calls kj2 t139 false t140 _ A11.out).mono ?_); rintro e w12 ⟨rfl, hb⟩; refine ⟨_, rfl, ?_⟩; have n0_ := Aside0.mk (below_step belNow hb); clear HB; have HB := n0_; clear n0_; (try clear hb); (try clear hb2); (try clear hk); (try clear hi)))
        go_meet
        case rel => exact ⟨_, (t140), eqNow, H', ⟨by have := HJ2.out; first | omega | exact Nat.le_refl _⟩, ⟨belNow⟩⟩
       ·rw [if_neg c10] at H
        have c10b0 : ((Int.tmod (wrap64 (Int.tdiv a1 2)) 2) == 1) = false := beq_eq_false_iff_ne.mpr c10
        have c10b1 : ((Int.tmod (wrap64 (Int.tdiv a1 2)) 2) != 1) = true := bne_iff_ne.mpr c10
        (first | rw [c10b0] | (simp only [i64_w, i32_w]; rw [c10b0]) | skip)
        by_cases c13 : (Int.tmod (wrap64 (Int.tdiv a1 4)) 2) = 1
        ·rw [if_pos c13] at H
         have c13b0 : ((Int.tmod (wrap64 (Int.tdiv a1 4)) 2) == 1) = true := beq_iff_eq.mpr c13
         have c13b1 : ((Int.tmod (wrap64 (Int.tdiv a1 4)) 2) != 1) = false := bne_eq_false_iff_eq.mpr c13
         clear c13
         replace H := Option.bind_eq_some_iff.mp H
         obtain ⟨t141, A140, H⟩ := H
         replace H : ((selvageref05_tail.f kj2 t141).bind fun t142 => (selvageref05_Key.j1 kj2 a1 t142 (a0.extract t139.size a0.size))) = some r := H
         have A14 := Aside0.mk A140
         clear A140
         replace H := Option.bind_eq_some_iff.mp H
         obtain ⟨t142, A150, H⟩ := H
         replace H : (selvageref05_Key.j1 kj2 a1 t142 (a0.extract t139.size a0.size)) = some r := H
         have A15 := Aside0.mk A150
         clear A150
         have H' := Aside0.mk H
         clear H
         go_wp2_with (first | ((with_reducible refine gate_callee (f := 24) rfl ?_); refine goesL_ (some 36) rfl rfl Tryd.func24 (by kernel_rfl) rfl #[.string t139, .bool true] rfl argsOk ?_; (with_reducible refine (selvageref05_runs.calls kj2 t139 true t141 _ A14.out).mono ?_); rintro e w16 ⟨rfl, hb⟩; refine ⟨_, rfl, ?_⟩; have n0_ := Aside0.mk (below_step belNow hb); clear HB; have HB := n0_; clear n0_; (try clear hb); (try clear hb2); (try clear hk); (try clear hi)) | ((with_reducible refine gate_callee (f := 25) rfl ?_); refine goesL_ (some 37) rfl rfl Tryd.func25 (by kernel_rfl) rfl #[.string t141] rfl argsOk ?_; (with_reducible refine (selvageref05_tail.calls kj2 t141 t142 _ A15.out).mono ?_); rintro e w' ⟨rfl, ⟨nd, rfl⟩⟩; refine ⟨_, rfl, ?_⟩))
         go_meet
         case rel => exact ⟨_, (t142), eqNow, H', ⟨by have := HJ2.out; first | omega | exact Nat.le_refl _⟩, ⟨belNow⟩⟩
        ·rw [if_neg c13] at H
         have c13b0 : ((Int.tmod (wrap64 (Int.tdiv a1 4)) 2) == 1) = false := beq_eq_false_iff_ne.mpr c13
         have c13b1 : ((Int.tmod (wrap64 (Int.tdiv a1 4)) 2) != 1) = true := bne_iff_ne.mpr c13
         by_cases c17 : (Int.tmod (wrap64 (Int.tdiv a1 8)) 2) = 1
         ·rw [if_pos c17] at H
          have c17b0 : ((Int.tmod (wrap64 (Int.tdiv a1 8)) 2) == 1) = true := beq_iff_eq.mpr c17
          have c17b1 : ((Int.tmod (wrap64 (Int.tdiv a1 8)) 2) != 1) = false := bne_eq_false_iff_eq.mpr c17
          clear c17
          replace H := Option.bind_eq_some_iff.mp H
          obtain ⟨t143, A180, H⟩ := H
          replace H : (selvageref05_Key.j1 kj2 a1 t143 (a0.extract t139.size a0.size)) = some r := H
          have A18 := Aside0.mk A180
          clear A180
          have H' := Aside0.mk H
          clear H
          go_wp2_with (first | ((with_reducible refine gate_callee (f := 25) rfl ?_); refine goesL_ (some 44) rfl rfl Tryd.func25 (by kernel_rfl) rfl #[.string t139] rfl argsOk ?_; (with_reducible refine (selvageref05_tail.calls kj2 t139 t143 _ A18.out).mono ?_); rintro e w' ⟨rfl, ⟨nd, rfl⟩⟩; refine ⟨_, rfl, ?_⟩))
          go_meet
          case rel => exact ⟨_, (t143), eqNow, H', ⟨by have := HJ2.out; first | omega | exact Nat.le_refl _⟩, ⟨belNow⟩⟩
         ·rw [if_neg c17] at H
          have c17b0 : ((Int.tmod (wrap64 (Int.tdiv a1 8)) 2) == 1) = false := beq_eq_false_iff_ne.mpr c17
          have c17b1 : ((Int.tmod (wrap64 (Int.tdiv a1 8)) 2) != 1) = true := bne_iff_ne.mpr c17
          have H' := Aside0.mk H
          clear H
          go_wp2
          go_meet
          case rel => exact ⟨_, (t139), eqNow, H', ⟨by have := HJ2.out; first | omega | exact Nat.le_refl _⟩, ⟨belNow⟩⟩
      case rest =>
       clear HC9
       try clear c1
       try clear c2
       try clear p2
       try clear c4
       try clear c4b0
       try clear c5
       try clear p6
       try clear c7
       try clear c7b0
       try clear c7b1
       try clear c8
       try clear c8b0
       try clear c8b1
       try clear c9
       try clear c10
       try clear c10b0
       try clear c10b1
       try clear c13
       try clear c13b0
       try clear c13b1
       try clear c17
       try clear c17b0
       try clear c17b1
       try clear p2
       obtain ⟨kq, x5_8, rfl, HA, HJ8, HB⟩ := hcut
       cases kq with
       | zero => exact absurd HA.out (by simp [selvageref05_Key.j1])
       | succ kj8 =>
        have H := HA.out
        clear HA
        simp only [selvageref05_Key.j1] at H
        by_cases c19 : (Int.tmod a1 2) = 1
        ·rw [if_pos c19] at H
         have c19b0 : ((Int.tmod a1 2) == 1) = true := beq_iff_eq.mpr c19
         have c19b1 : ((Int.tmod a1 2) != 1) = false := bne_eq_false_iff_eq.mpr c19
         clear c19
         have H' := Aside0.mk H
         clear H
         go_wp2
         go_loopg [7, 8] kj8 (fun kq v7 v8 w' => ∃ (x7_3 : List Int) (x8_3 : Int), v8 = .int .i64 x8_3 ∧ Aside0 (selvageref05_Key.l0 kq x5_8 (a0.extract t139.size a0.size) x7_3 x8_3 = some r) ∧ Aside0 (kq ≤ kj8) ∧ Aside0 (Kd.R (Kd.int .u8) 5 w' w.heap.size (fun _ => True) v7 x7_3) ∧ Aside0 (Below w.heap.size w w'))
         case atStart => exact ⟨(([] : List Int)), (0), eqNow, H', ⟨Nat.le_refl _⟩, ⟨by first | exact Kd.R_nil _ _ _ _ _ | exact Kd.N_nil _ _ _ _ _ | exact Kd.V_nil _ _ _ _ _ | exact Kd.Q_nil _ _ _ _ _ | exact Kd.S_nil _ _ _ _ _⟩, ⟨belNow⟩⟩
         case round =>
          clear H'
          try clear c1
          try clear c2
          try clear p2
          try clear c4
          try clear c4b0
          try clear c5
          try clear p6
          try clear c7
          try clear c7b0
          try clear c7b1
          try clear c8
          try clear c8b0
          try clear c8b1
          try clear c9
          try clear c10
          try clear c10b0
          try clear c10b1
          try clear c13
          try clear c13b0
          try clear c13b1
          try clear c17
          try clear c17b0
          try clear c17b1
          try clear c19
          try clear c19b0
          try clear c19b1
          try clear p2
          try clear p6
          obtain ⟨x7_3, x8_3, rfl, HA, HK3, HO_7, HB⟩ := hrel
          cases gk with
          | zero => exact absurd HA.out (by simp [selvageref05_Key.l0])
          | succ k3 =>
           have H := HA.out
           clear HA
           simp only [selvageref05_Key.l0] at H
           by_cases c20 : x8_3 < (x5_8.size : Int)
           ·rw [if_pos c20] at H
            have c20b0 : decide (x8_3 < (x5_8.size : Int)) = true := decide_eq_true c20
            clear c20
            by_cases c21 : 0 ≤ x8_3
            ·rw [if_pos c21] at H
             have c21b0 : decide (0 ≤ x8_3) = true := decide_eq_true c21
             clear c21
             by_cases c23 : (bt x5_8 x8_3) ≥ 65
             ·rw [if_pos c23] at H
              have c23b0 : decide (65 ≤ (bt x5_8 x8_3)) = true := decide_eq_true c23
              clear c23
              by_cases c24 : (bt x5_8 x8_3) ≤ 90
              ·rw [if_pos c24] at H
               have c24b0 : decide ((bt x5_8 x8_3) ≤ 90) = true := decide_eq_true c24
               clear c24
               by_cases c25 : x7_3.length < 140737488355328
               ·rw [if_pos c25] at H
                have LMc25 := Aside0.mk c25
                clear c25
                obtain ⟨y144, hy144⟩ : ∃ y_ : List Int, y_ = (x7_3 ++ [((bt x5_8 x8_3) + 32) % 256]) := ⟨_, rfl⟩
                replace H : (selvageref05_Key.l0 k3 x5_8 (a0.extract t139.size a0.size) y144 (wrap64 (x8_3 + 1))) = some r := by first | (rw [hy144]; with_reducible exact H) | (have H2_ := (Option.bind_some _ _).symm.trans H; rw [hy144]; with_reducible exact H2_) | (have H2_ := (Option.bind_some _ _).symm.trans H; with_reducible exact H2_) | with_reducible exact H | (rw [hy144]; exact H) | exact H
                have Ny144 := Aside0.mk hy144
                clear hy144
                have H' := Aside0.mk H
                clear H
                have p22 : 0 ≤ (x8_3 : Int) := ofDec
                have q22 : x8_3 < (x5_8.size : Int) := ofDec
                have hx22 := bt_at x5_8 x8_3
                replace p22 := eq_true p22
                replace q22 := eq_true q22
                go_wp2_with (first | ((with_reducible refine gate_builtin (b := .append) (xs := #[.tmp 65, .tmp 67]) rfl ?_); at_builtin; refine Kd.R_append (Kd.int .u8) (w0 := w) w.heap.size rfl (.tmp 65) (.tmp 67) 42 5 (.int .u8 0) 1 rfl Tryd.underlying42 info5 rfl (by decide) (by omega) u7 x7_3 (((bt x5_8 x8_3) + 32) % 256) [.int .u8 (((bt x5_8 x8_3) + 32) % 256)] (fun _ => True) (fun _ => False) rfl rfl ?aP (fun _ hk => hk.elim) ?aF ?aO ?aB ?aS ?aL ?_; (case aP => exact rfl); (case aB => exact belNow); (case aF => exact (fun _ _ => trivial)); (case aO => exact (kdUp HO_7.out)); (case aS => exact (below_size belNow)); (case aL => have := LMc25.out; omega); intro v145 w26 ho hb hg hat; rw [← Ny144.out] at ho; have n0_ := Aside0.mk (hb); have n1_ := Aside0.mk (ho); clear HB; clear HO_7; have HB := n0_; have HO146 := n1_; clear n0_ n1_; clear ho hb hg hat))
                go_roundg k3
                case measure => have := HJ2.out; have := HJ8.out; have := HK3.out; omega
                case rel => exact ⟨(y144), (wrap64 (x8_3 + 1)), eqNow, H', ⟨by have := HJ2.out; have := HJ8.out; have := HK3.out; omega⟩, ⟨by (with_reducible repeat (first | apply Kd.R_alloc | apply Kd.R_drewN | apply Kd.R_drew)); (first | exact HO146.out | exact Kd.R_mono HO146.out (fun k_ h_ h2_ => h_ (h2_.trans ((fun (A_ : Option Addr) (n_ m_ c_ : Nat) => (show (Value.slice A_ n_ c_).ownBlock = (Value.slice A_ m_ c_).ownBlock by cases A_ <;> rfl)) _ _ _ _))))⟩, ⟨belNow⟩⟩
               ·rw [if_neg c25] at H
                exact absurd H (by simp)
              ·rw [if_neg c24] at H
               have c24b0 : decide ((bt x5_8 x8_3) ≤ 90) = false := decide_eq_false c24
               clear c24
               by_cases c27 : x7_3.length < 140737488355328
               ·rw [if_pos c27] at H
                have LMc27 := Aside0.mk c27
                clear c27
                obtain ⟨y147, hy147⟩ : ∃ y_ : List Int, y_ = (x7_3 ++ [bt x5_8 x8_3]) := ⟨_, rfl⟩
                replace H : (selvageref05_Key.l0 k3 x5_8 (a0.extract t139.size a0.size) y147 (wrap64 (x8_3 + 1))) = some r := by first | (rw [hy147]; with_reducible exact H) | (have H2_ := (Option.bind_some _ _).symm.trans H; rw [hy147]; with_reducible exact H2_) | (have H2_ := (Option.bind_some _ _).symm.trans H; with_reducible exact H2_) | with_reducible exact H | (rw [hy147]; exact H) | exact H
                have Ny147 := Aside0.mk hy147
                clear hy147
                have H' := Aside0.mk H
                clear H
                have p22 : 0 ≤ (x8_3 : Int) := ofDec
                have q22 : x8_3 < (x5_8.size : Int) := ofDec
                have hx22 := bt_at x5_8 x8_3
                replace p22 := eq_true p22
                replace q22 := eq_true q22
                go_wp2_with (first | ((with_reducible refine gate_builtin (b := .append) (xs := #[.tmp 65, .tmp 67]) rfl ?_); at_builtin; refine Kd.R_append (Kd.int .u8) (w0 := w) w.heap.size rfl (.tmp 65) (.tmp 67) 42 5 (.int .u8 0) 1 rfl Tryd.underlying42 info5 rfl (by decide) (by omega) u7 x7_3 (bt x5_8 x8_3) [.int .u8 (bt x5_8 x8_3)] (fun _ => True) (fun _ => False) rfl rfl ?aP (fun _ hk => hk.elim) ?aF ?aO ?aB ?aS ?aL ?_; (case aP => exact rfl); (case aB => exact belNow); (case aF => exact (fun _ _ => trivial)); (case aO => exact (kdUp HO_7.out)); (case aS => exact (below_size belNow)); (case aL => have := LMc27.out; omega); intro v148 w28 ho hb hg hat; rw [← Ny147.out] at ho; have n0_ := Aside0.mk (hb); have n1_ := Aside0.mk (ho); clear HB; clear HO_7; have HB := n0_; have HO149 := n1_; clear n0_ n1_; clear ho hb hg hat))
                go_roundg k3
                case measure => have := HJ2.out; have := HJ8.out; have := HK3.out; omega
                case rel => exact ⟨(y147), (wrap64 (x8_3 + 1)), eqNow, H', ⟨by have := HJ2.out; have := HJ8.out; have := HK3.out; omega⟩, ⟨by (with_reducible repeat (first | apply Kd.R_alloc | apply Kd.R_drewN | apply Kd.R_drew)); (first | exact HO149.out | exact Kd.R_mono HO149.out (fun k_ h_ h2_ => h_ (h2_.trans ((fun (A_ : Option Addr) (n_ m_ c_ : Nat) => (show (Value.slice A_ n_ c_).ownBlock = (Value.slice A_ m_ c_).ownBlock by cases A_ <;> rfl)) _ _ _ _))))⟩, ⟨belNow⟩⟩
               ·rw [if_neg c27] at H
                exact absurd H (by simp)
             ·rw [if_neg c23] at H
              have c23b0 : decide (65 ≤ (bt x5_8 x8_3)) = false := decide_eq_false c23
              clear c23
              by_cases c29 : x7_3.length < 140737488355328
              ·rw [if_pos c29] at H
               have LMc29 := Aside0.mk c29
               clear c29
               obtain ⟨y150, hy150⟩ : ∃ y_ : List Int, y_ = (x7_3 ++ [bt x5_8 x8_3]) := ⟨_, rfl⟩
               replace H : (selvageref05_Key.l0 k3 x5_8 (a0.extract t139.size a0.size) y150 (wrap64 (x8_3 + 1))) = some r := by first | (rw [hy150]; with_reducible exact H) | (have H2_ := (Option.bind_some _ _).symm.trans H; rw [hy150]; with_reducible exact H2_) | (have H2_ := (Option.bind_some _ _).symm.trans H; with_reducible exact H2_) | with_reducible exact H | (rw [hy150]; exact H) | exact H
               have Ny150 := Aside0.mk hy150
               clear hy150
               have H' := Aside0.mk H
               clear H
               have p22 : 0 ≤ (x8_3 : Int) := ofDec
               have q22 : x8_3 < (x5_8.size : Int) := ofDec
               have hx22 := bt_at x5_8 x8_3
               replace p22 := eq_true p22
               replace q22 := eq_true q22
               go_wp2_with (first | ((with_reducible refine gate_builtin (b := .append) (xs := #[.tmp 65, .tmp 67]) rfl ?_); at_builtin; refine Kd.R_append (Kd.int .u8) (w0 := w) w.heap.size rfl (.tmp 65) (.tmp 67) 42 5 (.int .u8 0) 1 rfl Tryd.underlying42 info5 rfl (by decide) (by omega) u7 x7_3 (bt x5_8 x8_3) [.int .u8 (bt x5_8 x8_3)] (fun _ => True) (fun _ => False) rfl rfl ?aP (fun _ hk => hk.elim) ?aF ?aO ?aB ?aS ?aL ?_; (case aP => exact rfl); (case aB => exact belNow); (case aF => exact (fun _ _ => trivial)); (case aO => exact (kdUp HO_7.out)); (case aS => exact (below_size belNow)); (case aL => have := LMc29.out; omega); intro v151 w30 ho hb hg hat; rw [← Ny150.out] at ho; have n0_ := Aside0.mk (hb); have n1_ := Aside0.mk (ho); clear HB; clear HO_7; have HB := n0_; have HO152 := n1_; clear n0_ n1_; clear ho hb hg hat))
               go_roundg k3
               case measure => have := HJ2.out; have := HJ8.out; have := HK3.out; omega
               case rel => exact ⟨(y150), (wrap64 (x8_3 + 1)), eqNow, H', ⟨by have := HJ2.out; have := HJ8.out; have := HK3.out; omega⟩, ⟨by (with_reducible repeat (first | apply Kd.R_alloc | apply Kd.R_drewN | apply Kd.R_drew)); (first | exact HO152.out | exact Kd.R_mono HO152.out (fun k_ h_ h2_ => h_ (h2_.trans ((fun (A_ : Option Addr) (n_ m_ c_ : Nat) => (show (Value.slice A_ n_ c_).ownBlock = (Value.slice A_ m_ c_).ownBlock by cases A_ <;> rfl)) _ _ _ _))))⟩, ⟨belNow⟩⟩
              ·rw [if_neg c29] at H
               exact absurd H (by simp)
            ·rw [if_neg c21] at H
             exact absurd H (by simp)
           ·rw [if_neg c20] at H
            have c20b0 : decide (x8_3 < (x5_8.size : Int)) = false := decide_eq_false c20
            clear c20
            by_cases c31 : (strOfNums x7_3).size + (a0.extract t139.size a0.size).size ≤ 9223372036854775807
            ·rw [if_pos c31] at H
             have c31b0 := eq_true c31
             have c31b1 : decide ((strOfNums x7_3).size + (a0.extract t139.size a0.size).size ≤ 9223372036854775807) = true := decide_eq_true c31
             try have c31b2 : (9223372036854775807 < (strOfNums x7_3).size + (a0.extract t139.size a0.size).size) = False := eq_false (Nat.not_lt.2 c31)
             try (have c31b3 := c31b2; simp only [ByteArray.size_extract, Nat.sub_zero] at c31b3)
             obtain rfl := Option.some.inj H
             have hcv32 := own_string (P := Tryd.prog) Tryd.underlying42 Tryd.underlying5 Tryd.underlying9 (Kd.own_of_R HO_7.out)
             have hcq32 := fun n_ : Nat => own_string (P := Tryd.prog) Tryd.underlying42 Tryd.underlying5 Tryd.underlying9 (Kd.own_of_R (Kd.R_drewN HO_7.out n_))
             go_wp2
             go_ret
             exact ⟨eqEnd, belNow⟩
            ·rw [if_neg c31] at H
             exact absurd H (by simp)
        ·rw [if_neg c19] at H
         have c19b0 : ((Int.tmod a1 2) == 1) = false := beq_eq_false_iff_ne.mpr c19
         have c19b1 : ((Int.tmod a1 2) != 1) = true := bne_iff_ne.mpr c19
         by_cases c33 : x5_8.size + (a0.extract t139.size a0.size).size ≤ 9223372036854775807
         ·rw [if_pos c33] at H
          have c33b0 := eq_true c33
          have c33b1 : decide (x5_8.size + (a0.extract t139.size a0.size).size ≤ 9223372036854775807) = true := decide_eq_true c33
          try have c33b2 : (9223372036854775807 < x5_8.size + (a0.extract t139.size a0.size).size) = False := eq_false (Nat.not_lt.2 c33)
          try (have c33b3 := c33b2; simp only [ByteArray.size_extract, Nat.sub_zero] at c33b3)
          obtain rfl := Option.some.inj H
          go_wp2
          go_ret
          exact ⟨eqEnd, belNow⟩
         ·rw [if_neg c33] at H
          exact absurd H (by simp)
     ·rw [if_neg c8] at H
      exact absurd H (by simp)
    ·rw [if_neg c7] at H
     exact absurd H (by simp)
end Go.Proofs.YtpfhgaaphaalgaaDoor.Pp
