-- Printed by this session's pp.py over the kit's printer, out of the translation. Lean checks it.
import Derived.Test.YtmfanpibpmajnaaDoorESq
import Derived.Test.YtmfanpibpmajnaaDoorPp0
import Derived.Test.YtmfanpibpmajnaaDoorPp9
namespace Go.Proofs.YtmfanpibpmajnaaDoor.Pp
open Go.RowKit Go.Proofs.YtmfanpibpmajnaaDoor.Ext Go.Proofs.YtmfanpibpmajnaaDoorW.PrintWords Go.Proofs.YtmfanpibpmajnaaDoorW.PrintLast Go.Proofs.YtmfanpibpmajnaaDoorW.PrintMore
attribute [local go_sem] max2_int min2_int max_two min_two max_three min_three max_four min_four   -- for this text's walks alone
set_option linter.unusedVariables false
set_option linter.unusedSimpArgs false
mutual
def selvageref06_Of.j0 : Nat → List (S55) → Int → Int → Bool → Option ((List (S43)) × Int)
 | 0, _, _, _, _ => none
 | k + 1, x0, x1, x2, x27 => if x27 = true then (some (([] : List (S43)), 1)) else (selvageref06_Of.l0 k x0 x1 x2 ([] : List (S43)) 0 0 0)
def selvageref06_Of.l0 : Nat → List (S55) → Int → Int → List (S43) → Int → Int → Int → Option ((List (S43)) × Int)
 | 0, _, _, _, _, _, _, _ => none
 | k + 1, x0, x1, x2, x8, x9, x10, x11 => if x11 ≤ (x0.length : Int) then (if x11 < (x0.length : Int) then (if 0 ≤ x11 then (if ((rd_T55 x0 x11).f0) < x9 then (selvageref06_Of.j2 k x0 x1 x2 x8 x9 x10 x11 ((rd_T55 x0 x11).f0) ((rd_T55 x0 x11).f1) true) else (if ((rd_T55 x0 x11).f1) < x10 then (selvageref06_Of.j2 k x0 x1 x2 x8 x9 x10 x11 ((rd_T55 x0 x11).f0) ((rd_T55 x0 x11).f1) true) else (if ((rd_T55 x0 x11).f0) ≥ x1 then (selvageref06_Of.j2 k x0 x1 x2 x8 x9 x10 x11 ((rd_T55 x0 x11).f0) ((rd_T55 x0 x11).f1) true) else (selvageref06_Of.j2 k x0 x1 x2 x8 x9 x10 x11 ((rd_T55 x0 x11).f0) ((rd_T55 x0 x11).f1) (decide (((rd_T55 x0 x11).f1) ≥ x2)))))) else (none)) else (if x1 > x9 then (if x8.length < 4398046511104 then (selvageref06_Of.l0 k x0 x1 x2 (x8 ++ [(⟨x9, wrap64 (x1 - x9), x10, wrap64 (x2 - x10)⟩ : S43)]) (wrap64 (x1 + 1)) (wrap64 (x2 + 1)) (wrap64 (x11 + 1))) else (none)) else (if x2 > x10 then (if x8.length < 4398046511104 then (selvageref06_Of.l0 k x0 x1 x2 (x8 ++ [(⟨x9, wrap64 (x1 - x9), x10, wrap64 (x2 - x10)⟩ : S43)]) (wrap64 (x1 + 1)) (wrap64 (x2 + 1)) (wrap64 (x11 + 1))) else (none)) else (selvageref06_Of.l0 k x0 x1 x2 x8 (wrap64 (x1 + 1)) (wrap64 (x2 + 1)) (wrap64 (x11 + 1)))))) else (some (x8, 0))
def selvageref06_Of.j2 : Nat → List (S55) → Int → Int → List (S43) → Int → Int → Int → Int → Int → Bool → Option ((List (S43)) × Int)
 | 0, _, _, _, _, _, _, _, _, _, _ => none
 | k + 1, x0, x1, x2, x8, x9, x10, x11, x12, x13, x67 => if x67 = true then (some (([] : List (S43)), 60)) else (if x12 > x9 then (if x8.length < 4398046511104 then (selvageref06_Of.l0 k x0 x1 x2 (x8 ++ [(⟨x9, wrap64 (x12 - x9), x10, wrap64 (x13 - x10)⟩ : S43)]) (wrap64 (x12 + 1)) (wrap64 (x13 + 1)) (wrap64 (x11 + 1))) else (none)) else (if x13 > x10 then (if x8.length < 4398046511104 then (selvageref06_Of.l0 k x0 x1 x2 (x8 ++ [(⟨x9, wrap64 (x12 - x9), x10, wrap64 (x13 - x10)⟩ : S43)]) (wrap64 (x12 + 1)) (wrap64 (x13 + 1)) (wrap64 (x11 + 1))) else (none)) else (selvageref06_Of.l0 k x0 x1 x2 x8 (wrap64 (x12 + 1)) (wrap64 (x13 + 1)) (wrap64 (x11 + 1)))))
end
def selvageref06_Of.f (k : Nat) (l0 : List (S55)) (a1 : Int) (a2 : Int) : Option ((List (S43)) × Int) := if a1 < 0 then (selvageref06_Of.j0 k l0 a1 a2 true) else (if a1 > 4194304 then (selvageref06_Of.j0 k l0 a1 a2 true) else (if a2 < 0 then (selvageref06_Of.j0 k l0 a1 a2 true) else (selvageref06_Of.j0 k l0 a1 a2 (decide (a2 > 4194304)))))
set_option maxHeartbeats 80000000 in
set_option maxRecDepth 100000 in
theorem selvageref06_Of.calls (k : Nat) (A0 : Option Addr) (c0 : Nat) (l0 : List (S55)) (a1 : Int) (a2 : Int) (r1 : List (S43)) (r2 : Int) (w : World) (hr0 : Kd.C k55 w A0 l0.length l0) (hc0 : l0.length ≤ c0) (h : selvageref06_Of.f k l0 a1 a2 = some (r1, r2)) :
  Calls Tryd.prog 31 #[.slice A0 l0.length c0, .int .i64 a1, .int .i64 a2] w fun e w' => ∃ v0_ : Value, e = .returned (.tuple #[v0_, .int .i64 r2]) ∧ Kd.R k43 43 w' w.heap.size (fun _ => True) v0_ r1 ∧ Below w.heap.size w w' := by
 have hu43 := Tryd.underlying43
 have HR0 := Aside0.mk hr0
 have HC0 := Aside0.mk hc0
 clear hr0 hc0
 have HB := Aside0.mk (Below.refl w.heap.size w)
 have H : (if a1 < 0 then (selvageref06_Of.j0 k l0 a1 a2 true) else (if a1 > 4194304 then (selvageref06_Of.j0 k l0 a1 a2 true) else (if a2 < 0 then (selvageref06_Of.j0 k l0 a1 a2 true) else (selvageref06_Of.j0 k l0 a1 a2 (decide (a2 > 4194304)))))) = some (r1, r2) := h
 clear h
 have HC4 := Aside0.mk H
 clear H
 go_enter Tryd.func31, Tryd.ntmps31
 try simp only [List.append_eq, List.cons_append, List.nil_append]
 go_upto_region 1 with (fail)
 repeat (go_quiet (fail); go_upto_region 1 with (fail))
 go_cut [27] (fun v27 wc => ∃ (kq : Nat) (x27_3 : Bool), v27 = .bool x27_3 ∧ Aside0 (selvageref06_Of.j0 kq l0 a1 a2 x27_3 = some (r1, r2)) ∧ Aside0 (kq ≤ k) ∧ Aside0 (Below w.heap.size w wc))
 case first =>
  have H := HC4.out
  clear HC4
  by_cases c5 : a1 < 0
  ·rw [if_pos c5] at H
   have c5b0 : decide (a1 < 0) = true := decide_eq_true c5
   clear c5
   (first | rw [c5b0] | (simp only [i64_w, i32_w]; rw [c5b0]) | skip)
   have H' := Aside0.mk H
   clear H
   go_wp2
   repeat (go_quiet (fail); try go_wp2)
   go_meet
   case rel => exact ⟨_, (true), eqNow, H', ⟨by first | omega | exact Nat.le_refl _⟩, ⟨belNow⟩⟩
  ·rw [if_neg c5] at H
   have c5b0 : decide (a1 < 0) = false := decide_eq_false c5
   clear c5
   (first | rw [c5b0] | (simp only [i64_w, i32_w]; rw [c5b0]) | skip)
   by_cases c6 : a1 > 4194304
   ·rw [if_pos c6] at H
    have c6b0 : decide (4194304 < a1) = true := decide_eq_true c6
    clear c6
    have H' := Aside0.mk H
    clear H
    go_wp2
    repeat (go_quiet (fail); try go_wp2)
    go_meet
    case rel => exact ⟨_, (true), eqNow, H', ⟨by first | omega | exact Nat.le_refl _⟩, ⟨belNow⟩⟩
   ·rw [if_neg c6] at H
    have c6b0 : decide (4194304 < a1) = false := decide_eq_false c6
    clear c6
    by_cases c7 : a2 < 0
    ·rw [if_pos c7] at H
     have c7b0 : decide (a2 < 0) = true := decide_eq_true c7
     clear c7
     have H' := Aside0.mk H
     clear H
     go_wp2
     repeat (go_quiet (fail); try go_wp2)
     go_meet
     case rel => exact ⟨_, (true), eqNow, H', ⟨by first | omega | exact Nat.le_refl _⟩, ⟨belNow⟩⟩
    ·rw [if_neg c7] at H
     have c7b0 : decide (a2 < 0) = false := decide_eq_false c7
     clear c7
     have H' := Aside0.mk H
     clear H
     go_wp2
     repeat (go_quiet (fail); try go_wp2)
     go_meet
     case rel => exact ⟨_, (decide (a2 > 4194304)), eqNow, H', ⟨by first | omega | exact Nat.le_refl _⟩, ⟨belNow⟩⟩
 case rest =>
  clear HC4
  try clear p2
  try clear c3
  try clear c5
  try clear c5b0
  try clear c6
  try clear c6b0
  try clear c7
  try clear c7b0
  obtain ⟨kq, x27_3, rfl, HA, HJ3, HB⟩ := hcut
  cases kq with
  | zero => exact absurd HA.out (by simp [selvageref06_Of.j0])
  | succ kj3 =>
   have H := HA.out
   clear HA
   simp only [selvageref06_Of.j0] at H
   by_cases c8 : x27_3 = true
   ·subst c8
    have H1 : (some (([] : List (S43)), 1)) = some (r1, r2) := by rw [if_pos rfl] at H; exact H
    clear H
    have H := H1
    clear H1
    simp only [Option.some.injEq, Prod.mk.injEq] at H
    obtain ⟨rfl, rfl⟩ := H
    go_wp2
    repeat (go_quiet (fail); try go_wp2)
    go_ret2
    exact ⟨_, eqEnd, by first | exact Kd.R_nil _ _ _ _ _ | exact Kd.N_nil _ _ _ _ _ | exact Kd.V_nil _ _ _ _ _ | exact Kd.Q_nil _ _ _ _ _ | exact Kd.S_nil _ _ _ _ _, belNow⟩
   ·replace c8 := Bool.eq_false_iff.mpr c8
    subst c8
    have H1 : (selvageref06_Of.l0 kj3 l0 a1 a2 ([] : List (S43)) 0 0 0) = some (r1, r2) := by rw [if_neg (show ¬ (false = true) by decide)] at H; exact H
    clear H
    have H := H1
    clear H1
    have H' := Aside0.mk H
    clear H
    go_wp2
    repeat (go_quiet (fail); try go_wp2)
    go_loopg [8, 9, 10, 11] kj3 (fun kq v8 v9 v10 v11 w' => ∃ (x8_2 : List (S43)) (x9_2 : Int) (x10_2 : Int) (x11_2 : Int), v9 = .int .i64 x9_2 ∧ v10 = .int .i64 x10_2 ∧ v11 = .int .i64 x11_2 ∧ Aside0 (selvageref06_Of.l0 kq l0 a1 a2 x8_2 x9_2 x10_2 x11_2 = some (r1, r2)) ∧ Aside0 (kq ≤ kj3) ∧ Aside0 (Kd.R k43 43 w' w.heap.size (fun _ => True) v8 x8_2) ∧ Aside0 (Below w.heap.size w w'))
    case atStart => exact ⟨(([] : List (S43))), (0), (0), (0), eqNow, eqNow, eqNow, H', ⟨Nat.le_refl _⟩, ⟨by first | exact Kd.R_nil _ _ _ _ _ | exact Kd.N_nil _ _ _ _ _ | exact Kd.V_nil _ _ _ _ _ | exact Kd.Q_nil _ _ _ _ _ | exact Kd.S_nil _ _ _ _ _⟩, ⟨belNow⟩⟩
    case round =>
     clear H'
     try clear p2
     try clear c3
     try clear c5
     try clear c5b0
     try clear c6
     try clear c6b0
     try clear c7
     try clear c7b0
     try clear c8
     try clear p2
     obtain ⟨x8_2, x9_2, x10_2, x11_2, rfl, rfl, rfl, HA, HK2, HO_8, HB⟩ := hrel
     cases gk with
     | zero => exact absurd HA.out (by simp [selvageref06_Of.l0])
     | succ k2 =>
      have H := HA.out
      clear HA
      simp only [selvageref06_Of.l0] at H
      by_cases c9 : x11_2 ≤ (l0.length : Int)
      ·rw [if_pos c9] at H
       have c9b0 : decide (x11_2 ≤ (l0.length : Int)) = true := decide_eq_true c9
       clear c9
       by_cases c10 : x11_2 < (l0.length : Int)
       ·rw [if_pos c10] at H
        have c10b0 : decide (x11_2 < (l0.length : Int)) = true := decide_eq_true c10
        clear c10
        by_cases c11 : 0 ≤ x11_2
        ·rw [if_pos c11] at H
         have c11b0 : decide (0 ≤ x11_2) = true := decide_eq_true c11
         clear c11
         have HC12 := Aside0.mk H
         clear H
         have p225 : 0 ≤ (x11_2 : Int) := ofDec
         have q225 : x11_2 < (l0.length : Int) := ofDec
         obtain ⟨ad225, e225, hx225_0, hx225_1⟩ := at_T55 HR0.out x11_2 p225 q225
         cases e225
         replace hx225_0 := (HB.out.cell (World.block_lt_of_cell? w _ hx225_0)).trans hx225_0
         replace hx225_1 := (HB.out.cell (World.block_lt_of_cell? w _ hx225_1)).trans hx225_1
         replace p225 := eq_true p225
         replace q225 := eq_true q225
         have p226 : 0 ≤ (x11_2 : Int) := ofDec
         have q226 : x11_2 < (l0.length : Int) := ofDec
         obtain ⟨ad226, e226, hx226_0, hx226_1⟩ := at_T55 HR0.out x11_2 p226 q226
         obtain rfl : ad225 = ad226 := (by injection e226)
         replace hx226_0 := (HB.out.cell (World.block_lt_of_cell? w _ hx226_0)).trans hx226_0
         replace hx226_1 := (HB.out.cell (World.block_lt_of_cell? w _ hx226_1)).trans hx226_1
         replace p226 := eq_true p226
         replace q226 := eq_true q226
         go_upto_region 11 with (fail)
         repeat (go_quiet (fail); go_upto_region 11 with (fail))
         go_cut [67] (fun v67 wc => ∃ (kq : Nat) (x67_11 : Bool), v67 = .bool x67_11 ∧ Aside0 (selvageref06_Of.j2 kq l0 a1 a2 x8_2 x9_2 x10_2 x11_2 ((rd_T55 l0 x11_2).f0) ((rd_T55 l0 x11_2).f1) x67_11 = some (r1, r2)) ∧ Aside0 (kq ≤ k2) ∧ Aside0 (Kd.R k43 43 wc w.heap.size (fun _ => True) u8 x8_2) ∧ Aside0 (Below w.heap.size w wc))
         case first =>
          have H := HC12.out
          clear HC12
          by_cases c13 : ((rd_T55 l0 x11_2).f0) < x9_2
          ·rw [if_pos c13] at H
           have c13b0 : decide (((rd_T55 l0 x11_2).f0) < x9_2) = true := decide_eq_true c13
           clear c13
           (first | rw [c13b0] | (simp only [i64_w, i32_w]; rw [c13b0]) | skip)
           have H' := Aside0.mk H
           clear H
           go_wp2
           repeat (go_quiet (fail); try go_wp2)
           go_meet
           case rel => exact ⟨_, (true), eqNow, H', ⟨by have := HJ3.out; have := HK2.out; first | omega | exact Nat.le_refl _⟩, ⟨by (with_reducible repeat (first | apply Kd.R_alloc | apply Kd.R_drewN | apply Kd.R_drew)); (first | exact HO_8.out | exact Kd.R_mono HO_8.out (fun k_ h_ h2_ => h_ (h2_.trans ((fun (A_ : Option Addr) (n_ m_ c_ : Nat) => (show (Value.slice A_ n_ c_).ownBlock = (Value.slice A_ m_ c_).ownBlock by cases A_ <;> rfl)) _ _ _ _))))⟩, ⟨belNow⟩⟩
          ·rw [if_neg c13] at H
           have c13b0 : decide (((rd_T55 l0 x11_2).f0) < x9_2) = false := decide_eq_false c13
           clear c13
           (first | rw [c13b0] | (simp only [i64_w, i32_w]; rw [c13b0]) | skip)
           by_cases c14 : ((rd_T55 l0 x11_2).f1) < x10_2
           ·rw [if_pos c14] at H
            have c14b0 : decide (((rd_T55 l0 x11_2).f1) < x10_2) = true := decide_eq_true c14
            clear c14
            have H' := Aside0.mk H
            clear H
            go_wp2
            repeat (go_quiet (fail); try go_wp2)
            go_meet
            case rel => exact ⟨_, (true), eqNow, H', ⟨by have := HJ3.out; have := HK2.out; first | omega | exact Nat.le_refl _⟩, ⟨by (with_reducible repeat (first | apply Kd.R_alloc | apply Kd.R_drewN | apply Kd.R_drew)); (first | exact HO_8.out | exact Kd.R_mono HO_8.out (fun k_ h_ h2_ => h_ (h2_.trans ((fun (A_ : Option Addr) (n_ m_ c_ : Nat) => (show (Value.slice A_ n_ c_).ownBlock = (Value.slice A_ m_ c_).ownBlock by cases A_ <;> rfl)) _ _ _ _))))⟩, ⟨belNow⟩⟩
           ·rw [if_neg c14] at H
            have c14b0 : decide (((rd_T55 l0 x11_2).f1) < x10_2) = false := decide_eq_false c14
            clear c14
            by_cases c15 : ((rd_T55 l0 x11_2).f0) ≥ a1
            ·rw [if_pos c15] at H
             have c15b0 : decide (a1 ≤ ((rd_T55 l0 x11_2).f0)) = true := decide_eq_true c15
             clear c15
             have H' := Aside0.mk H
             clear H
             go_wp2
             repeat (go_quiet (fail); try go_wp2)
             go_meet
             case rel => exact ⟨_, (true), eqNow, H', ⟨by have := HJ3.out; have := HK2.out; first | omega | exact Nat.le_refl _⟩, ⟨by (with_reducible repeat (first | apply Kd.R_alloc | apply Kd.R_drewN | apply Kd.R_drew)); (first | exact HO_8.out | exact Kd.R_mono HO_8.out (fun k_ h_ h2_ => h_ (h2_.trans ((fun (A_ : Option Addr) (n_ m_ c_ : Nat) => (show (Value.slice A_ n_ c_).ownBlock = (Value.slice A_ m_ c_).ownBlock by cases A_ <;> rfl)) _ _ _ _))))⟩, ⟨belNow⟩⟩
            ·rw [if_neg c15] at H
             have c15b0 : decide (a1 ≤ ((rd_T55 l0 x11_2).f0)) = false := decide_eq_false c15
             clear c15
             have H' := Aside0.mk H
             clear H
             go_wp2
             repeat (go_quiet (fail); try go_wp2)
             go_meet
             case rel => exact ⟨_, (decide (((rd_T55 l0 x11_2).f1) ≥ a2)), eqNow, H', ⟨by have := HJ3.out; have := HK2.out; first | omega | exact Nat.le_refl _⟩, ⟨by (with_reducible repeat (first | apply Kd.R_alloc | apply Kd.R_drewN | apply Kd.R_drew)); (first | exact HO_8.out | exact Kd.R_mono HO_8.out (fun k_ h_ h2_ => h_ (h2_.trans ((fun (A_ : Option Addr) (n_ m_ c_ : Nat) => (show (Value.slice A_ n_ c_).ownBlock = (Value.slice A_ m_ c_).ownBlock by cases A_ <;> rfl)) _ _ _ _))))⟩, ⟨belNow⟩⟩
         case rest =>
          clear HC12
          try clear c1
          try clear p2
          try clear q2
          try clear hx2
          try clear c3
          try clear c5
          try clear c5b0
          try clear c6
          try clear c6b0
          try clear c7
          try clear c7b0
          try clear c8
          try clear c9
          try clear c9b0
          try clear c10
          try clear c10b0
          try clear c11
          try clear c11b0
          try clear c13
          try clear c13b0
          try clear c14
          try clear c14b0
          try clear c15
          try clear c15b0
          try clear hx225_0
          try clear hx225_1
          try clear hx226_0
          try clear hx226_1
          try clear p2
          try clear p225
          try clear p226
          try clear q225
          try clear q226
          obtain ⟨kq, x67_11, rfl, HA, HJ11, HO_8, HB⟩ := hcut
          cases kq with
          | zero => exact absurd HA.out (by simp [selvageref06_Of.j2])
          | succ kj11 =>
           have H := HA.out
           clear HA
           simp only [selvageref06_Of.j2] at H
           by_cases c16 : x67_11 = true
           ·subst c16
            have H1 : (some (([] : List (S43)), 60)) = some (r1, r2) := by rw [if_pos rfl] at H; exact H
            clear H
            have H := H1
            clear H1
            simp only [Option.some.injEq, Prod.mk.injEq] at H
            obtain ⟨rfl, rfl⟩ := H
            go_wp2
            repeat (go_quiet (fail); try go_wp2)
            go_ret2
            exact ⟨_, eqEnd, by first | exact Kd.R_nil _ _ _ _ _ | exact Kd.N_nil _ _ _ _ _ | exact Kd.V_nil _ _ _ _ _ | exact Kd.Q_nil _ _ _ _ _ | exact Kd.S_nil _ _ _ _ _, belNow⟩
           ·replace c16 := Bool.eq_false_iff.mpr c16
            subst c16
            have H1 : (if ((rd_T55 l0 x11_2).f0) > x9_2 then (if x8_2.length < 4398046511104 then (selvageref06_Of.l0 kj11 l0 a1 a2 (x8_2 ++ [(⟨x9_2, wrap64 (((rd_T55 l0 x11_2).f0) - x9_2), x10_2, wrap64 (((rd_T55 l0 x11_2).f1) - x10_2)⟩ : S43)]) (wrap64 (((rd_T55 l0 x11_2).f0) + 1)) (wrap64 (((rd_T55 l0 x11_2).f1) + 1)) (wrap64 (x11_2 + 1))) else (none)) else (if ((rd_T55 l0 x11_2).f1) > x10_2 then (if x8_2.length < 4398046511104 then (selvageref06_Of.l0 kj11 l0 a1 a2 (x8_2 ++ [(⟨x9_2, wrap64 (((rd_T55 l0 x11_2).f0) - x9_2), x10_2, wrap64 (((rd_T55 l0 x11_2).f1) - x10_2)⟩ : S43)]) (wrap64 (((rd_T55 l0 x11_2).f0) + 1)) (wrap64 (((rd_T55 l0 x11_2).f1) + 1)) (wrap64 (x11_2 + 1))) else (none)) else (selvageref06_Of.l0 kj11 l0 a1 a2 x8_2 (wrap64 (((rd_T55 l0 x11_2).f0) + 1)) (wrap64 (((rd_T55 l0 x11_2).f1) + 1)) (wrap64 (x11_2 + 1))))) = some (r1, r2) := by rw [if_neg (show ¬ (false = true) by decide)] at H; exact H
            clear H
            have H := H1
            clear H1
            by_cases c17 : ((rd_T55 l0 x11_2).f0) > x9_2
            ·rw [if_pos c17] at H
             have c17b0 : decide (x9_2 < ((rd_T55 l0 x11_2).f0)) = true := decide_eq_true c17
             clear c17
             by_cases c18 : x8_2.length < 4398046511104
             ·rw [if_pos c18] at H
              have LMc18 := Aside0.mk c18
              clear c18
              obtain ⟨y227, hy227⟩ : ∃ y_ : List (S43), y_ = (x8_2 ++ [(⟨x9_2, wrap64 (((rd_T55 l0 x11_2).f0) - x9_2), x10_2, wrap64 (((rd_T55 l0 x11_2).f1) - x10_2)⟩ : S43)]) := ⟨_, rfl⟩
              replace H : (selvageref06_Of.l0 kj11 l0 a1 a2 y227 (wrap64 (((rd_T55 l0 x11_2).f0) + 1)) (wrap64 (((rd_T55 l0 x11_2).f1) + 1)) (wrap64 (x11_2 + 1))) = some (r1, r2) := by first | (rw [hy227]; with_reducible exact H) | (have H2_ := (Option.bind_some _ _).symm.trans H; rw [hy227]; with_reducible exact H2_) | (have H2_ := (Option.bind_some _ _).symm.trans H; with_reducible exact H2_) | with_reducible exact H | (rw [hy227]; exact H) | exact H
              have Ny227 := Aside0.mk hy227
              clear hy227
              have H' := Aside0.mk H
              clear H
              go_wp2_with (first | ((with_reducible refine gate_builtin (b := .append) (xs := #[.tmp 76, .tmp 86]) rfl ?_); at_builtin; refine Kd.R_append k43 (w0 := w) w.heap.size rfl (.tmp 76) (.tmp 86) 22 43 (.agg #[(.int .i64 0), (.int .i64 0), (.int .i64 0), (.int .i64 0)]) 32 rfl Tryd.underlying22 info43 rfl (by decide) (by omega) u8 x8_2 (⟨x9_2, wrap64 (((rd_T55 l0 x11_2).f0) - x9_2), x10_2, wrap64 (((rd_T55 l0 x11_2).f1) - x10_2)⟩ : S43) [.int .i64 x9_2, .int .i64 (wrap64 (((rd_T55 l0 x11_2).f0) - x9_2)), .int .i64 x10_2, .int .i64 (wrap64 (((rd_T55 l0 x11_2).f1) - x10_2))] (fun _ => True) (fun _ => False) rfl rfl ?aP (fun _ hk => hk.elim) ?aF ?aO ?aB ?aS ?aL ?_; (case aP => exact k43_mkM _ _ _ (⟨x9_2, wrap64 (((rd_T55 l0 x11_2).f0) - x9_2), x10_2, wrap64 (((rd_T55 l0 x11_2).f1) - x10_2)⟩ : S43)); (case aB => exact belNow); (case aF => exact (fun _ _ => trivial)); (case aO => exact (kdUp HO_8.out)); (case aS => exact (below_size belNow)); (case aL => have := LMc18.out; omega); intro v228 w19 ho hb hg hat; rw [← Ny227.out] at ho; have n0_ := Aside0.mk (hb); have n1_ := Aside0.mk (ho); clear HB; clear HO_8; have HB := n0_; have HO229 := n1_; clear n0_ n1_; clear ho hb hg hat))
              repeat (go_quiet (first | ((with_reducible refine gate_builtin (b := .append) (xs := #[.tmp 76, .tmp 86]) rfl ?_); at_builtin; refine Kd.R_append k43 (w0 := w) w.heap.size rfl (.tmp 76) (.tmp 86) 22 43 (.agg #[(.int .i64 0), (.int .i64 0), (.int .i64 0), (.int .i64 0)]) 32 rfl Tryd.underlying22 info43 rfl (by decide) (by omega) u8 x8_2 (⟨x9_2, wrap64 (((rd_T55 l0 x11_2).f0) - x9_2), x10_2, wrap64 (((rd_T55 l0 x11_2).f1) - x10_2)⟩ : S43) [.int .i64 x9_2, .int .i64 (wrap64 (((rd_T55 l0 x11_2).f0) - x9_2)), .int .i64 x10_2, .int .i64 (wrap64 (((rd_T55 l0 x11_2).f1) - x10_2))] (fun _ => True) (fun _ => False) rfl rfl ?aP (fun _ hk => hk.elim) ?aF ?aO ?aB ?aS ?aL ?_; (case aP => exact k43_mkM _ _ _ (⟨x9_2, wrap64 (((rd_T55 l0 x11_2).f0) - x9_2), x10_2, wrap64 (((rd_T55 l0 x11_2).f1) - x10_2)⟩ : S43)); (case aB => exact belNow); (case aF => exact (fun _ _ => trivial)); (case aO => exact (kdUp HO_8.out)); (case aS => exact (below_size belNow)); (case aL => have := LMc18.out; omega); intro v228 w19 ho hb hg hat; rw [← Ny227.out] at ho; have n0_ := Aside0.mk (hb); have n1_ := Aside0.mk (ho); clear HB; clear HO_8; have HB := n0_; have HO229 := n1_; clear n0_ n1_; clear ho hb hg hat)); try go_wp2_with (first | ((with_reducible refine gate_builtin (b := .append) (xs := #[.tmp 76, .tmp 86]) rfl ?_); at_builtin; refine Kd.R_append k43 (w0 := w) w.heap.size rfl (.tmp 76) (.tmp 86) 22 43 (.agg #[(.int .i64 0), (.int .i64 0), (.int .i64 0), (.int .i64 0)]) 32 rfl Tryd.underlying22 info43 rfl (by decide) (by omega) u8 x8_2 (⟨x9_2, wrap64 (((rd_T55 l0 x11_2).f0) - x9_2), x10_2, wrap64 (((rd_T55 l0 x11_2).f1) - x10_2)⟩ : S43) [.int .i64 x9_2, .int .i64 (wrap64 (((rd_T55 l0 x11_2).f0) - x9_2)), .int .i64 x10_2, .int .i64 (wrap64 (((rd_T55 l0 x11_2).f1) - x10_2))] (fun _ => True) (fun _ => False) rfl rfl ?aP (fun _ hk => hk.elim) ?aF ?aO ?aB ?aS ?aL ?_; (case aP => exact k43_mkM _ _ _ (⟨x9_2, wrap64 (((rd_T55 l0 x11_2).f0) - x9_2), x10_2, wrap64 (((rd_T55 l0 x11_2).f1) - x10_2)⟩ : S43)); (case aB => exact belNow); (case aF => exact (fun _ _ => trivial)); (case aO => exact (kdUp HO_8.out)); (case aS => exact (below_size belNow)); (case aL => have := LMc18.out; omega); intro v228 w19 ho hb hg hat; rw [← Ny227.out] at ho; have n0_ := Aside0.mk (hb); have n1_ := Aside0.mk (ho); clear HB; clear HO_8; have HB := n0_; have HO229 := n1_; clear n0_ n1_; clear ho hb hg hat)))
              go_roundg kj11
              case measure => have := HJ3.out; have := HK2.out; have := HJ11.out; omega
              case rel => exact ⟨(y227), (wrap64 (((rd_T55 l0 x11_2).f0) + 1)), (wrap64 (((rd_T55 l0 x11_2).f1) + 1)), (wrap64 (x11_2 + 1)), eqNow, eqNow, eqNow, H', ⟨by have := HJ3.out; have := HK2.out; have := HJ11.out; omega⟩, ⟨by (with_reducible repeat (first | apply Kd.R_alloc | apply Kd.R_drewN | apply Kd.R_drew)); (first | exact HO229.out | exact Kd.R_mono HO229.out (fun k_ h_ h2_ => h_ (h2_.trans ((fun (A_ : Option Addr) (n_ m_ c_ : Nat) => (show (Value.slice A_ n_ c_).ownBlock = (Value.slice A_ m_ c_).ownBlock by cases A_ <;> rfl)) _ _ _ _))))⟩, ⟨belNow⟩⟩
             ·rw [if_neg c18] at H
              exact absurd H (by simp)
            ·rw [if_neg c17] at H
             have c17b0 : decide (x9_2 < ((rd_T55 l0 x11_2).f0)) = false := decide_eq_false c17
             clear c17
             by_cases c20 : ((rd_T55 l0 x11_2).f1) > x10_2
             ·rw [if_pos c20] at H
              have c20b0 : decide (x10_2 < ((rd_T55 l0 x11_2).f1)) = true := decide_eq_true c20
              clear c20
              by_cases c21 : x8_2.length < 4398046511104
              ·rw [if_pos c21] at H
               have LMc21 := Aside0.mk c21
               clear c21
               obtain ⟨y230, hy230⟩ : ∃ y_ : List (S43), y_ = (x8_2 ++ [(⟨x9_2, wrap64 (((rd_T55 l0 x11_2).f0) - x9_2), x10_2, wrap64 (((rd_T55 l0 x11_2).f1) - x10_2)⟩ : S43)]) := ⟨_, rfl⟩
               replace H : (selvageref06_Of.l0 kj11 l0 a1 a2 y230 (wrap64 (((rd_T55 l0 x11_2).f0) + 1)) (wrap64 (((rd_T55 l0 x11_2).f1) + 1)) (wrap64 (x11_2 + 1))) = some (r1, r2) := by first | (rw [hy230]; with_reducible exact H) | (have H2_ := (Option.bind_some _ _).symm.trans H; rw [hy230]; with_reducible exact H2_) | (have H2_ := (Option.bind_some _ _).symm.trans H; with_reducible exact H2_) | with_reducible exact H | (rw [hy230]; exact H) | exact H
               have Ny230 := Aside0.mk hy230
               clear hy230
               have H' := Aside0.mk H
               clear H
               go_wp2_with (first | ((with_reducible refine gate_builtin (b := .append) (xs := #[.tmp 76, .tmp 86]) rfl ?_); at_builtin; refine Kd.R_append k43 (w0 := w) w.heap.size rfl (.tmp 76) (.tmp 86) 22 43 (.agg #[(.int .i64 0), (.int .i64 0), (.int .i64 0), (.int .i64 0)]) 32 rfl Tryd.underlying22 info43 rfl (by decide) (by omega) u8 x8_2 (⟨x9_2, wrap64 (((rd_T55 l0 x11_2).f0) - x9_2), x10_2, wrap64 (((rd_T55 l0 x11_2).f1) - x10_2)⟩ : S43) [.int .i64 x9_2, .int .i64 (wrap64 (((rd_T55 l0 x11_2).f0) - x9_2)), .int .i64 x10_2, .int .i64 (wrap64 (((rd_T55 l0 x11_2).f1) - x10_2))] (fun _ => True) (fun _ => False) rfl rfl ?aP (fun _ hk => hk.elim) ?aF ?aO ?aB ?aS ?aL ?_; (case aP => exact k43_mkM _ _ _ (⟨x9_2, wrap64 (((rd_T55 l0 x11_2).f0) - x9_2), x10_2, wrap64 (((rd_T55 l0 x11_2).f1) - x10_2)⟩ : S43)); (case aB => exact belNow); (case aF => exact (fun _ _ => trivial)); (case aO => exact (kdUp HO_8.out)); (case aS => exact (below_size belNow)); (case aL => have := LMc21.out; omega); intro v231 w22 ho hb hg hat; rw [← Ny230.out] at ho; have n0_ := Aside0.mk (hb); have n1_ := Aside0.mk (ho); clear HB; clear HO_8; have HB := n0_; have HO232 := n1_; clear n0_ n1_; clear ho hb hg hat))
               repeat (go_quiet (first | ((with_reducible refine gate_builtin (b := .append) (xs := #[.tmp 76, .tmp 86]) rfl ?_); at_builtin; refine Kd.R_append k43 (w0 := w) w.heap.size rfl (.tmp 76) (.tmp 86) 22 43 (.agg #[(.int .i64 0), (.int .i64 0), (.int .i64 0), (.int .i64 0)]) 32 rfl Tryd.underlying22 info43 rfl (by decide) (by omega) u8 x8_2 (⟨x9_2, wrap64 (((rd_T55 l0 x11_2).f0) - x9_2), x10_2, wrap64 (((rd_T55 l0 x11_2).f1) - x10_2)⟩ : S43) [.int .i64 x9_2, .int .i64 (wrap64 (((rd_T55 l0 x11_2).f0) - x9_2)), .int .i64 x10_2, .int .i64 (wrap64 (((rd_T55 l0 x11_2).f1) - x10_2))] (fun _ => True) (fun _ => False) rfl rfl ?aP (fun _ hk => hk.elim) ?aF ?aO ?aB ?aS ?aL ?_; (case aP => exact k43_mkM _ _ _ (⟨x9_2, wrap64 (((rd_T55 l0 x11_2).f0) - x9_2), x10_2, wrap64 (((rd_T55 l0 x11_2).f1) - x10_2)⟩ : S43)); (case aB => exact belNow); (case aF => exact (fun _ _ => trivial)); (case aO => exact (kdUp HO_8.out)); (case aS => exact (below_size belNow)); (case aL => have := LMc21.out; omega); intro v231 w22 ho hb hg hat; rw [← Ny230.out] at ho; have n0_ := Aside0.mk (hb); have n1_ := Aside0.mk (ho); clear HB; clear HO_8; have HB := n0_; have HO232 := n1_; clear n0_ n1_; clear ho hb hg hat)); try go_wp2_with (first | ((with_reducible refine gate_builtin (b := .append) (xs := #[.tmp 76, .tmp 86]) rfl ?_); at_builtin; refine Kd.R_append k43 (w0 := w) w.heap.size rfl (.tmp 76) (.tmp 86) 22 43 (.agg #[(.int .i64 0), (.int .i64 0), (.int .i64 0), (.int .i64 0)]) 32 rfl Tryd.underlying22 info43 rfl (by decide) (by omega) u8 x8_2 (⟨x9_2, wrap64 (((rd_T55 l0 x11_2).f0) - x9_2), x10_2, wrap64 (((rd_T55 l0 x11_2).f1) - x10_2)⟩ : S43) [.int .i64 x9_2, .int .i64 (wrap64 (((rd_T55 l0 x11_2).f0) - x9_2)), .int .i64 x10_2, .int .i64 (wrap64 (((rd_T55 l0 x11_2).f1) - x10_2))] (fun _ => True) (fun _ => False) rfl rfl ?aP (fun _ hk => hk.elim) ?aF ?aO ?aB ?aS ?aL ?_; (case aP => exact k43_mkM _ _ _ (⟨x9_2, wrap64 (((rd_T55 l0 x11_2).f0) - x9_2), x10_2, wrap64 (((rd_T55 l0 x11_2).f1) - x10_2)⟩ : S43)); (case aB => exact belNow); (case aF => exact (fun _ _ => trivial)); (case aO => exact (kdUp HO_8.out)); (case aS => exact (below_size belNow)); (case aL => have := LMc21.out; omega); intro v231 w22 ho hb hg hat; rw [← Ny230.out] at ho; have n0_ := Aside0.mk (hb); have n1_ := Aside0.mk (ho); clear HB; clear HO_8; have HB := n0_; have HO232 := n1_; clear n0_ n1_; clear ho hb hg hat)))
               go_roundg kj11
               case measure => have := HJ3.out; have := HK2.out; have := HJ11.out; omega
               case rel => exact ⟨(y230), (wrap64 (((rd_T55 l0 x11_2).f0) + 1)), (wrap64 (((rd_T55 l0 x11_2).f1) + 1)), (wrap64 (x11_2 + 1)), eqNow, eqNow, eqNow, H', ⟨by have := HJ3.out; have := HK2.out; have := HJ11.out; omega⟩, ⟨by (with_reducible repeat (first | apply Kd.R_alloc | apply Kd.R_drewN | apply Kd.R_drew)); (first | exact HO232.out | exact Kd.R_mono HO232.out (fun k_ h_ h2_ => h_ (h2_.trans ((fun (A_ : Option Addr) (n_ m_ c_ : Nat) => (show (Value.slice A_ n_ c_).ownBlock = (Value.slice A_ m_ c_).ownBlock by cases A_ <;> rfl)) _ _ _ _))))⟩, ⟨belNow⟩⟩
              ·rw [if_neg c21] at H
               exact absurd H (by simp)
             ·rw [if_neg c20] at H
              have c20b0 : decide (x10_2 < ((rd_T55 l0 x11_2).f1)) = false := decide_eq_false c20
              clear c20
              have H' := Aside0.mk H
              clear H
              go_wp2
              repeat (go_quiet (fail); try go_wp2)
              go_roundg kj11
              case measure => have := HJ3.out; have := HK2.out; have := HJ11.out; omega
              case rel => exact ⟨(x8_2), (wrap64 (((rd_T55 l0 x11_2).f0) + 1)), (wrap64 (((rd_T55 l0 x11_2).f1) + 1)), (wrap64 (x11_2 + 1)), eqNow, eqNow, eqNow, H', ⟨by have := HJ3.out; have := HK2.out; have := HJ11.out; omega⟩, ⟨by (with_reducible repeat (first | apply Kd.R_alloc | apply Kd.R_drewN | apply Kd.R_drew)); (first | exact HO_8.out | exact Kd.R_mono HO_8.out (fun k_ h_ h2_ => h_ (h2_.trans ((fun (A_ : Option Addr) (n_ m_ c_ : Nat) => (show (Value.slice A_ n_ c_).ownBlock = (Value.slice A_ m_ c_).ownBlock by cases A_ <;> rfl)) _ _ _ _))))⟩, ⟨belNow⟩⟩
        ·rw [if_neg c11] at H
         exact absurd H (by simp)
       ·rw [if_neg c10] at H
        have c10b0 : decide (x11_2 < (l0.length : Int)) = false := decide_eq_false c10
        clear c10
        by_cases c23 : a1 > x9_2
        ·rw [if_pos c23] at H
         have c23b0 : decide (x9_2 < a1) = true := decide_eq_true c23
         clear c23
         by_cases c24 : x8_2.length < 4398046511104
         ·rw [if_pos c24] at H
          have LMc24 := Aside0.mk c24
          clear c24
          obtain ⟨y233, hy233⟩ : ∃ y_ : List (S43), y_ = (x8_2 ++ [(⟨x9_2, wrap64 (a1 - x9_2), x10_2, wrap64 (a2 - x10_2)⟩ : S43)]) := ⟨_, rfl⟩
          replace H : (selvageref06_Of.l0 k2 l0 a1 a2 y233 (wrap64 (a1 + 1)) (wrap64 (a2 + 1)) (wrap64 (x11_2 + 1))) = some (r1, r2) := by first | (rw [hy233]; with_reducible exact H) | (have H2_ := (Option.bind_some _ _).symm.trans H; rw [hy233]; with_reducible exact H2_) | (have H2_ := (Option.bind_some _ _).symm.trans H; with_reducible exact H2_) | with_reducible exact H | (rw [hy233]; exact H) | exact H
          have Ny233 := Aside0.mk hy233
          clear hy233
          have H' := Aside0.mk H
          clear H
          go_wp2_with (first | ((with_reducible refine gate_builtin (b := .append) (xs := #[.tmp 76, .tmp 86]) rfl ?_); at_builtin; refine Kd.R_append k43 (w0 := w) w.heap.size rfl (.tmp 76) (.tmp 86) 22 43 (.agg #[(.int .i64 0), (.int .i64 0), (.int .i64 0), (.int .i64 0)]) 32 rfl Tryd.underlying22 info43 rfl (by decide) (by omega) u8 x8_2 (⟨x9_2, wrap64 (a1 - x9_2), x10_2, wrap64 (a2 - x10_2)⟩ : S43) [.int .i64 x9_2, .int .i64 (wrap64 (a1 - x9_2)), .int .i64 x10_2, .int .i64 (wrap64 (a2 - x10_2))] (fun _ => True) (fun _ => False) rfl rfl ?aP (fun _ hk => hk.elim) ?aF ?aO ?aB ?aS ?aL ?_; (case aP => exact k43_mkM _ _ _ (⟨x9_2, wrap64 (a1 - x9_2), x10_2, wrap64 (a2 - x10_2)⟩ : S43)); (case aB => exact belNow); (case aF => exact (fun _ _ => trivial)); (case aO => exact (kdUp HO_8.out)); (case aS => exact (below_size belNow)); (case aL => have := LMc24.out; omega); intro v234 w25 ho hb hg hat; rw [← Ny233.out] at ho; have n0_ := Aside0.mk (hb); have n1_ := Aside0.mk (ho); clear HB; clear HO_8; have HB := n0_; have HO235 := n1_; clear n0_ n1_; clear ho hb hg hat))
          repeat (go_quiet (first | ((with_reducible refine gate_builtin (b := .append) (xs := #[.tmp 76, .tmp 86]) rfl ?_); at_builtin; refine Kd.R_append k43 (w0 := w) w.heap.size rfl (.tmp 76) (.tmp 86) 22 43 (.agg #[(.int .i64 0), (.int .i64 0), (.int .i64 0), (.int .i64 0)]) 32 rfl Tryd.underlying22 info43 rfl (by decide) (by omega) u8 x8_2 (⟨x9_2, wrap64 (a1 - x9_2), x10_2, wrap64 (a2 - x10_2)⟩ : S43) [.int .i64 x9_2, .int .i64 (wrap64 (a1 - x9_2)), .int .i64 x10_2, .int .i64 (wrap64 (a2 - x10_2))] (fun _ => True) (fun _ => False) rfl rfl ?aP (fun _ hk => hk.elim) ?aF ?aO ?aB ?aS ?aL ?_; (case aP => exact k43_mkM _ _ _ (⟨x9_2, wrap64 (a1 - x9_2), x10_2, wrap64 (a2 - x10_2)⟩ : S43)); (case aB => exact belNow); (case aF => exact (fun _ _ => trivial)); (case aO => exact (kdUp HO_8.out)); (case aS => exact (below_size belNow)); (case aL => have := LMc24.out; omega); intro v234 w25 ho hb hg hat; rw [← Ny233.out] at ho; have n0_ := Aside0.mk (hb); have n1_ := Aside0.mk (ho); clear HB; clear HO_8; have HB := n0_; have HO235 := n1_; clear n0_ n1_; clear ho hb hg hat)); try go_wp2_with (first | ((with_reducible refine gate_builtin (b := .append) (xs := #[.tmp 76, .tmp 86]) rfl ?_); at_builtin; refine Kd.R_append k43 (w0 := w) w.heap.size rfl (.tmp 76) (.tmp 86) 22 43 (.agg #[(.int .i64 0), (.int .i64 0), (.int .i64 0), (.int .i64 0)]) 32 rfl Tryd.underlying22 info43 rfl (by decide) (by omega) u8 x8_2 (⟨x9_2, wrap64 (a1 - x9_2), x10_2, wrap64 (a2 - x10_2)⟩ : S43) [.int .i64 x9_2, .int .i64 (wrap64 (a1 - x9_2)), .int .i64 x10_2, .int .i64 (wrap64 (a2 - x10_2))] (fun _ => True) (fun _ => False) rfl rfl ?aP (fun _ hk => hk.elim) ?aF ?aO ?aB ?aS ?aL ?_; (case aP => exact k43_mkM _ _ _ (⟨x9_2, wrap64 (a1 - x9_2), x10_2, wrap64 (a2 - x10_2)⟩ : S43)); (case aB => exact belNow); (case aF => exact (fun _ _ => trivial)); (case aO => exact (kdUp HO_8.out)); (case aS => exact (below_size belNow)); (case aL => have := LMc24.out; omega); intro v234 w25 ho hb hg hat; rw [← Ny233.out] at ho; have n0_ := Aside0.mk (hb); have n1_ := Aside0.mk (ho); clear HB; clear HO_8; have HB := n0_; have HO235 := n1_; clear n0_ n1_; clear ho hb hg hat)))
          go_roundg k2
          case measure => have := HJ3.out; have := HK2.out; omega
          case rel => exact ⟨(y233), (wrap64 (a1 + 1)), (wrap64 (a2 + 1)), (wrap64 (x11_2 + 1)), eqNow, eqNow, eqNow, H', ⟨by have := HJ3.out; have := HK2.out; omega⟩, ⟨by (with_reducible repeat (first | apply Kd.R_alloc | apply Kd.R_drewN | apply Kd.R_drew)); (first | exact HO235.out | exact Kd.R_mono HO235.out (fun k_ h_ h2_ => h_ (h2_.trans ((fun (A_ : Option Addr) (n_ m_ c_ : Nat) => (show (Value.slice A_ n_ c_).ownBlock = (Value.slice A_ m_ c_).ownBlock by cases A_ <;> rfl)) _ _ _ _))))⟩, ⟨belNow⟩⟩
         ·rw [if_neg c24] at H
          exact absurd H (by simp)
        ·rw [if_neg c23] at H
         have c23b0 : decide (x9_2 < a1) = false := decide_eq_false c23
         clear c23
         by_cases c26 : a2 > x10_2
         ·rw [if_pos c26] at H
          have c26b0 : decide (x10_2 < a2) = true := decide_eq_true c26
          clear c26
          by_cases c27 : x8_2.length < 4398046511104
          ·rw [if_pos c27] at H
           have LMc27 := Aside0.mk c27
           clear c27
           obtain ⟨y236, hy236⟩ : ∃ y_ : List (S43), y_ = (x8_2 ++ [(⟨x9_2, wrap64 (a1 - x9_2), x10_2, wrap64 (a2 - x10_2)⟩ : S43)]) := ⟨_, rfl⟩
           replace H : (selvageref06_Of.l0 k2 l0 a1 a2 y236 (wrap64 (a1 + 1)) (wrap64 (a2 + 1)) (wrap64 (x11_2 + 1))) = some (r1, r2) := by first | (rw [hy236]; with_reducible exact H) | (have H2_ := (Option.bind_some _ _).symm.trans H; rw [hy236]; with_reducible exact H2_) | (have H2_ := (Option.bind_some _ _).symm.trans H; with_reducible exact H2_) | with_reducible exact H | (rw [hy236]; exact H) | exact H
           have Ny236 := Aside0.mk hy236
           clear hy236
           have H' := Aside0.mk H
           clear H
           go_wp2_with (first | ((with_reducible refine gate_builtin (b := .append) (xs := #[.tmp 76, .tmp 86]) rfl ?_); at_builtin; refine Kd.R_append k43 (w0 := w) w.heap.size rfl (.tmp 76) (.tmp 86) 22 43 (.agg #[(.int .i64 0), (.int .i64 0), (.int .i64 0), (.int .i64 0)]) 32 rfl Tryd.underlying22 info43 rfl (by decide) (by omega) u8 x8_2 (⟨x9_2, wrap64 (a1 - x9_2), x10_2, wrap64 (a2 - x10_2)⟩ : S43) [.int .i64 x9_2, .int .i64 (wrap64 (a1 - x9_2)), .int .i64 x10_2, .int .i64 (wrap64 (a2 - x10_2))] (fun _ => True) (fun _ => False) rfl rfl ?aP (fun _ hk => hk.elim) ?aF ?aO ?aB ?aS ?aL ?_; (case aP => exact k43_mkM _ _ _ (⟨x9_2, wrap64 (a1 - x9_2), x10_2, wrap64 (a2 - x10_2)⟩ : S43)); (case aB => exact belNow); (case aF => exact (fun _ _ => trivial)); (case aO => exact (kdUp HO_8.out)); (case aS => exact (below_size belNow)); (case aL => have := LMc27.out; omega); intro v237 w28 ho hb hg hat; rw [← Ny236.out] at ho; have n0_ := Aside0.mk (hb); have n1_ := Aside0.mk (ho); clear HB; clear HO_8; have HB := n0_; have HO238 := n1_; clear n0_ n1_; clear ho hb hg hat))
           repeat (go_quiet (first | ((with_reducible refine gate_builtin (b := .append) (xs := #[.tmp 76, .tmp 86]) rfl ?_); at_builtin; refine Kd.R_append k43 (w0 := w) w.heap.size rfl (.tmp 76) (.tmp 86) 22 43 (.agg #[(.int .i64 0), (.int .i64 0), (.int .i64 0), (.int .i64 0)]) 32 rfl Tryd.underlying22 info43 rfl (by decide) (by omega) u8 x8_2 (⟨x9_2, wrap64 (a1 - x9_2), x10_2, wrap64 (a2 - x10_2)⟩ : S43) [.int .i64 x9_2, .int .i64 (wrap64 (a1 - x9_2)), .int .i64 x10_2, .int .i64 (wrap64 (a2 - x10_2))] (fun _ => True) (fun _ => False) rfl rfl ?aP (fun _ hk => hk.elim) ?aF ?aO ?aB ?aS ?aL ?_; (case aP => exact k43_mkM _ _ _ (⟨x9_2, wrap64 (a1 - x9_2), x10_2, wrap64 (a2 - x10_2)⟩ : S43)); (case aB => exact belNow); (case aF => exact (fun _ _ => trivial)); (case aO => exact (kdUp HO_8.out)); (case aS => exact (below_size belNow)); (case aL => have := LMc27.out; omega); intro v237 w28 ho hb hg hat; rw [← Ny236.out] at ho; have n0_ := Aside0.mk (hb); have n1_ := Aside0.mk (ho); clear HB; clear HO_8; have HB := n0_; have HO238 := n1_; clear n0_ n1_; clear ho hb hg hat)); try go_wp2_with (first | ((with_reducible refine gate_builtin (b := .append) (xs := #[.tmp 76, .tmp 86]) rfl ?_); at_builtin; refine Kd.R_append k43 (w0 := w) w.heap.size rfl (.tmp 76) (.tmp 86) 22 43 (.agg #[(.int .i64 0), (.int .i64 0), (.int .i64 0), (.int .i64 0)]) 32 rfl Tryd.underlying22 info43 rfl (by decide) (by omega) u8 x8_2 (⟨x9_2, wrap64 (a1 - x9_2), x10_2, wrap64 (a2 - x10_2)⟩ : S43) [.int .i64 x9_2, .int .i64 (wrap64 (a1 - x9_2)), .int .i64 x10_2, .int .i64 (wrap64 (a2 - x10_2))] (fun _ => True) (fun _ => False) rfl rfl ?aP (fun _ hk => hk.elim) ?aF ?aO ?aB ?aS ?aL ?_; (case aP => exact k43_mkM _ _ _ (⟨x9_2, wrap64 (a1 - x9_2), x10_2, wrap64 (a2 - x10_2)⟩ : S43)); (case aB => exact belNow); (case aF => exact (fun _ _ => trivial)); (case aO => exact (kdUp HO_8.out)); (case aS => exact (below_size belNow)); (case aL => have := LMc27.out; omega); intro v237 w28 ho hb hg hat; rw [← Ny236.out] at ho; have n0_ := Aside0.mk (hb); have n1_ := Aside0.mk (ho); clear HB; clear HO_8; have HB := n0_; have HO238 := n1_; clear n0_ n1_; clear ho hb hg hat)))
           go_roundg k2
           case measure => have := HJ3.out; have := HK2.out; omega
           case rel => exact ⟨(y236), (wrap64 (a1 + 1)), (wrap64 (a2 + 1)), (wrap64 (x11_2 + 1)), eqNow, eqNow, eqNow, H', ⟨by have := HJ3.out; have := HK2.out; omega⟩, ⟨by (with_reducible repeat (first | apply Kd.R_alloc | apply Kd.R_drewN | apply Kd.R_drew)); (first | exact HO238.out | exact Kd.R_mono HO238.out (fun k_ h_ h2_ => h_ (h2_.trans ((fun (A_ : Option Addr) (n_ m_ c_ : Nat) => (show (Value.slice A_ n_ c_).ownBlock = (Value.slice A_ m_ c_).ownBlock by cases A_ <;> rfl)) _ _ _ _))))⟩, ⟨belNow⟩⟩
          ·rw [if_neg c27] at H
           exact absurd H (by simp)
         ·rw [if_neg c26] at H
          have c26b0 : decide (x10_2 < a2) = false := decide_eq_false c26
          clear c26
          have H' := Aside0.mk H
          clear H
          go_wp2
          repeat (go_quiet (fail); try go_wp2)
          go_roundg k2
          case measure => have := HJ3.out; have := HK2.out; omega
          case rel => exact ⟨(x8_2), (wrap64 (a1 + 1)), (wrap64 (a2 + 1)), (wrap64 (x11_2 + 1)), eqNow, eqNow, eqNow, H', ⟨by have := HJ3.out; have := HK2.out; omega⟩, ⟨by (with_reducible repeat (first | apply Kd.R_alloc | apply Kd.R_drewN | apply Kd.R_drew)); (first | exact HO_8.out | exact Kd.R_mono HO_8.out (fun k_ h_ h2_ => h_ (h2_.trans ((fun (A_ : Option Addr) (n_ m_ c_ : Nat) => (show (Value.slice A_ n_ c_).ownBlock = (Value.slice A_ m_ c_).ownBlock by cases A_ <;> rfl)) _ _ _ _))))⟩, ⟨belNow⟩⟩
      ·rw [if_neg c9] at H
       have c9b0 : decide (x11_2 ≤ (l0.length : Int)) = false := decide_eq_false c9
       clear c9
       simp only [Option.some.injEq, Prod.mk.injEq] at H
       obtain ⟨rfl, rfl⟩ := H
       go_wp2
       repeat (go_quiet (fail); try go_wp2)
       go_ret2
       exact ⟨_, eqEnd, by (with_reducible repeat (first | apply Kd.R_alloc | apply Kd.R_drewN | apply Kd.R_drew)); exact HO_8.out, belNow⟩
def selvageref06_Normal.f (k : Nat) (l0 : List (S43)) (a1 : Int) (a2 : Int) : Option ((List (S43)) × Int) := (selvageref06_Valid.f k l0 a1 a2).bind fun t239 => (if t239 = 0 then ((selvageref06_pairs.f k l0 a1).bind fun t240 => ((selvageref06_Of.f k t240 a1 a2).bind fun bt243 => (some (bt243.1, bt243.2)))) else (some (([] : List (S43)), t239)))
set_option maxHeartbeats 8000000 in
set_option maxRecDepth 100000 in
theorem selvageref06_Normal.calls (k : Nat) (A0 : Option Addr) (c0 : Nat) (l0 : List (S43)) (a1 : Int) (a2 : Int) (r1 : List (S43)) (r2 : Int) (w : World) (hr0 : Kd.C k43 w A0 l0.length l0) (hc0 : l0.length ≤ c0) (h : selvageref06_Normal.f k l0 a1 a2 = some (r1, r2)) :
  Calls Tryd.prog 20 #[.slice A0 l0.length c0, .int .i64 a1, .int .i64 a2] w fun e w' => ∃ v0_ : Value, e = .returned (.tuple #[v0_, .int .i64 r2]) ∧ Kd.R k43 43 w' w.heap.size (fun _ => True) v0_ r1 ∧ Below w.heap.size w w' := by
 have HR0 := Aside0.mk hr0
 have HC0 := Aside0.mk hc0
 clear hr0 hc0
 have HB := Aside0.mk (Below.refl w.heap.size w)
 have H : ((selvageref06_Valid.f k l0 a1 a2).bind fun t239 => (if t239 = 0 then ((selvageref06_pairs.f k l0 a1).bind fun t240 => ((selvageref06_Of.f k t240 a1 a2).bind fun bt243 => (some (bt243.1, bt243.2)))) else (some (([] : List (S43)), t239)))) = some (r1, r2) := h
 clear h
 replace H := Option.bind_eq_some_iff.mp H
 obtain ⟨t239, A40, H⟩ := H
 replace H : (if t239 = 0 then ((selvageref06_pairs.f k l0 a1).bind fun t240 => ((selvageref06_Of.f k t240 a1 a2).bind fun bt243 => (some (bt243.1, bt243.2)))) else (some (([] : List (S43)), t239))) = some (r1, r2) := H
 have A4 := Aside0.mk A40
 clear A40
 by_cases c5 : t239 = 0
 ·rw [if_pos c5] at H
  have c5b0 : (t239 == 0) = true := beq_iff_eq.mpr c5
  have c5b1 : (t239 != 0) = false := bne_eq_false_iff_eq.mpr c5
  clear c5
  replace H := Option.bind_eq_some_iff.mp H
  obtain ⟨t240, A60, H⟩ := H
  replace H : ((selvageref06_Of.f k t240 a1 a2).bind fun bt243 => (some (bt243.1, bt243.2))) = some (r1, r2) := H
  have A6 := Aside0.mk A60
  clear A60
  replace H := Option.bind_eq_some_iff.mp H
  obtain ⟨⟨t243, t244⟩, A70, H⟩ := H
  replace H : (some (t243, t244)) = some (r1, r2) := H
  have A7 := Aside0.mk A70
  clear A70
  simp only [Option.some.injEq, Prod.mk.injEq] at H
  obtain ⟨rfl, rfl⟩ := H
  go_enter Tryd.func20, Tryd.ntmps20
  go_wp2_with (first | ((with_reducible refine gate_callee (f := 23) rfl ?_); refine goesL_ (some 12) rfl rfl Tryd.func23 (by kernel_rfl) rfl #[.slice A0 l0.length c0, .int .i64 a1, .int .i64 a2] rfl argsOk ?_; (with_reducible refine (selvageref06_Valid.calls k _ _ l0 a1 a2 t239 _ ?side1 ?side2 A4.out).mono ?_); (case side1 => repeat (first | exact HR0.out | (with_reducible refine Kd.C_alloc ?_ _) | (with_reducible refine Kd.C_drewN ?_ _) | (with_reducible refine Kd.C_drew ?_))); (case side2 => exact HC0.out); rintro e w8 ⟨rfl, hb⟩; refine ⟨_, rfl, ?_⟩; have n0_ := Aside0.mk (below_step belNow hb); clear HB; have HB := n0_; clear n0_; (try clear hb); (try clear hb2); (try clear hk); (try clear hi)) | ((with_reducible refine gate_callee (f := 24) rfl ?_); refine goesL_ (some 18) rfl rfl Tryd.func24 (by kernel_rfl) rfl #[.slice A0 l0.length c0, .int .i64 a1] rfl argsOk ?_; (with_reducible refine (selvageref06_pairs.calls k _ _ l0 a1 t240 _ ?side1 ?side2 A6.out).mono ?_); (case side1 => repeat (first | exact (Kd.C_below HR0.out HB.out) | (with_reducible refine Kd.C_alloc ?_ _) | (with_reducible refine Kd.C_drewN ?_ _) | (with_reducible refine Kd.C_drew ?_))); (case side2 => exact HC0.out); rintro e w9 ⟨v241, rfl, ho0, hb⟩; refine ⟨_, rfl, ?_⟩; have n0_ := Aside0.mk (Kd.R_lower ho0 (below_size belNow)); have n1_ := Aside0.mk (below_step belNow hb); clear HB; have HO242 := n0_; have HB := n1_; clear n0_ n1_; (try clear hb); (try clear hb2); (try clear hk); (try clear hi); (try clear ho0); obtain ⟨Ao10, co10, eo10⟩ := Kd.R_slice HO242.out; subst eo10) | ((with_reducible refine gate_callee (f := 31) rfl ?_); refine goesL_ (some 21) rfl rfl Tryd.func31 (by kernel_rfl) rfl #[.slice Ao10 t240.length co10, .int .i64 a1, .int .i64 a2] rfl argsOk ?_; (with_reducible refine (selvageref06_Of.calls k _ _ t240 a1 a2 t243 t244 _ ?side1 ?side2 A7.out).mono ?_); (case side1 => repeat (first | exact (Kd.R_reads' HO242.out).2.2 | (with_reducible refine Kd.C_alloc ?_ _) | (with_reducible refine Kd.C_drewN ?_ _) | (with_reducible refine Kd.C_drew ?_))); (case side2 => exact (Kd.R_reads' HO242.out).2.1); rintro e w11 ⟨v245, rfl, ho0, hb⟩; refine ⟨_, rfl, ?_⟩; have n0_ := Aside0.mk (Kd.R_below (kdUp HO242.out) hb); have n1_ := Aside0.mk (Kd.R_lower ho0 (below_size belNow)); have n2_ := Aside0.mk (below_step belNow hb); clear HO242; clear HB; have HO242 := n0_; have HO246 := n1_; have HB := n2_; clear n0_ n1_ n2_; (try clear hb); (try clear hb2); (try clear hk); (try clear hi); (try clear ho0)))
  go_ret2
  exact ⟨_, eqEnd, by (with_reducible repeat (first | apply Kd.R_alloc | apply Kd.R_drewN | apply Kd.R_drew)); exact HO246.out, belNow⟩
 ·rw [if_neg c5] at H
  have c5b0 : (t239 == 0) = false := beq_eq_false_iff_ne.mpr c5
  have c5b1 : (t239 != 0) = true := bne_iff_ne.mpr c5
  simp only [Option.some.injEq, Prod.mk.injEq] at H
  obtain ⟨rfl, rfl⟩ := H
  go_enter Tryd.func20, Tryd.ntmps20
  go_wp2_with (first | ((with_reducible refine gate_callee (f := 23) rfl ?_); refine goesL_ (some 12) rfl rfl Tryd.func23 (by kernel_rfl) rfl #[.slice A0 l0.length c0, .int .i64 a1, .int .i64 a2] rfl argsOk ?_; (with_reducible refine (selvageref06_Valid.calls k _ _ l0 a1 a2 t239 _ ?side1 ?side2 A4.out).mono ?_); (case side1 => repeat (first | exact HR0.out | (with_reducible refine Kd.C_alloc ?_ _) | (with_reducible refine Kd.C_drewN ?_ _) | (with_reducible refine Kd.C_drew ?_))); (case side2 => exact HC0.out); rintro e w12 ⟨rfl, hb⟩; refine ⟨_, rfl, ?_⟩; have n0_ := Aside0.mk (below_step belNow hb); clear HB; have HB := n0_; clear n0_; (try clear hb); (try clear hb2); (try clear hk); (try clear hi)))
  go_ret2
  exact ⟨_, eqEnd, by first | exact Kd.R_nil _ _ _ _ _ | exact Kd.N_nil _ _ _ _ _ | exact Kd.V_nil _ _ _ _ _ | exact Kd.Q_nil _ _ _ _ _ | exact Kd.S_nil _ _ _ _ _, belNow⟩
def selvageref05_Space.f (a0 : Int) : Option (Bool) := if a0 = 9 then (some true) else (if a0 = 11 then (some true) else (if a0 = 12 then (some true) else (if a0 = 13 then (some true) else (some (a0 == 32)))))
set_option maxHeartbeats 8000000 in
set_option maxRecDepth 100000 in
theorem selvageref05_Space.calls (a0 : Int) (r : Bool) (w : World) (h : selvageref05_Space.f a0 = some r) :
  Calls Tryd.prog 53 #[.int .u8 a0] w fun e w' => e = .returned (.bool r) ∧ Drawn0 w w' := by
 have H : (if a0 = 9 then (some true) else (if a0 = 11 then (some true) else (if a0 = 12 then (some true) else (if a0 = 13 then (some true) else (some (a0 == 32)))))) = some r := h
 clear h
 by_cases c2 : a0 = 9
 ·rw [if_pos c2] at H
  have c2b0 : (a0 == 9) = true := beq_iff_eq.mpr c2
  have c2b1 : (a0 != 9) = false := bne_eq_false_iff_eq.mpr c2
  clear c2
  obtain rfl := Option.some.inj H
  go_enter Tryd.func53, Tryd.ntmps53
  go_wp2
  go_ret
  exact ⟨eqFin, drawnNow⟩
 ·rw [if_neg c2] at H
  have c2b0 : (a0 == 9) = false := beq_eq_false_iff_ne.mpr c2
  have c2b1 : (a0 != 9) = true := bne_iff_ne.mpr c2
  by_cases c3 : a0 = 11
  ·rw [if_pos c3] at H
   have c3b0 : (a0 == 11) = true := beq_iff_eq.mpr c3
   have c3b1 : (a0 != 11) = false := bne_eq_false_iff_eq.mpr c3
   clear c3
   obtain rfl := Option.some.inj H
   go_enter Tryd.func53, Tryd.ntmps53
   go_wp2
   go_ret
   exact ⟨eqFin, drawnNow⟩
  ·rw [if_neg c3] at H
   have c3b0 : (a0 == 11) = false := beq_eq_false_iff_ne.mpr c3
   have c3b1 : (a0 != 11) = true := bne_iff_ne.mpr c3
   by_cases c4 : a0 = 12
   ·rw [if_pos c4] at H
    have c4b0 : (a0 == 12) = true := beq_iff_eq.mpr c4
    have c4b1 : (a0 != 12) = false := bne_eq_false_iff_eq.mpr c4
    clear c4
    obtain rfl := Option.some.inj H
    go_enter Tryd.func53, Tryd.ntmps53
    go_wp2
    go_ret
    exact ⟨eqFin, drawnNow⟩
   ·rw [if_neg c4] at H
    have c4b0 : (a0 == 12) = false := beq_eq_false_iff_ne.mpr c4
    have c4b1 : (a0 != 12) = true := bne_iff_ne.mpr c4
    by_cases c5 : a0 = 13
    ·rw [if_pos c5] at H
     have c5b0 : (a0 == 13) = true := beq_iff_eq.mpr c5
     have c5b1 : (a0 != 13) = false := bne_eq_false_iff_eq.mpr c5
     clear c5
     obtain rfl := Option.some.inj H
     go_enter Tryd.func53, Tryd.ntmps53
     go_wp2
     go_ret
     exact ⟨eqFin, drawnNow⟩
    ·rw [if_neg c5] at H
     have c5b0 : (a0 == 13) = false := beq_eq_false_iff_ne.mpr c5
     have c5b1 : (a0 != 13) = true := bne_iff_ne.mpr c5
     obtain rfl := Option.some.inj H
     go_enter Tryd.func53, Tryd.ntmps53
     go_wp2
     go_ret
     exact ⟨eqFin, drawnNow⟩
def selvageref05_tail.l0 : Nat → ByteArray → Option (ByteArray)
 | 0, _ => none
 | k + 1, x0 => if (x0.size : Int) > 0 then (if 0 ≤ (wrap64 ((x0.size : Int) - 1)) then (if (wrap64 ((x0.size : Int) - 1)) < (x0.size : Int) then ((selvageref05_Space.f (bt x0 (wrap64 ((x0.size : Int) - 1)))).bind fun t247 => (if t247 = true then (if (wrap64 ((x0.size : Int) - 1)) ≤ (x0.size : Int) then (selvageref05_tail.l0 k (x0.extract 0 ((wrap64 ((x0.size : Int) - 1)) : Int).toNat)) else (none)) else (some x0))) else (none)) else (none)) else (some x0)
def selvageref05_tail.f (k : Nat) (a0 : ByteArray) : Option (ByteArray) := selvageref05_tail.l0 k a0
set_option maxHeartbeats 8000000 in
set_option maxRecDepth 100000 in
theorem selvageref05_tail.calls (k : Nat) (a0 : ByteArray) (r : ByteArray) (w : World) (h : selvageref05_tail.f k a0 = some r) :
  Calls Tryd.prog 43 #[.string a0] w fun e w' => e = .returned (.string r) ∧ Drawn0 w w' := by
 have H : (selvageref05_tail.l0 k a0) = some r := h
 clear h
 have H' := Aside0.mk H
 clear H
 go_enter Tryd.func43, Tryd.ntmps43
 go_wp2
 go_loopg [0] k (fun kq v0 w' => ∃ (x0_1 : ByteArray), v0 = .string x0_1 ∧ Aside0 (selvageref05_tail.l0 kq x0_1 = some r) ∧ Aside0 (kq ≤ k) ∧ Drawn0 w w')
 case atStart => exact ⟨(a0), eqNow, H', ⟨Nat.le_refl _⟩, drawnNow⟩
 case round =>
  clear H'
  obtain ⟨x0_1, rfl, HA, HK1, ⟨m1, rfl⟩⟩ := hrel
  cases gk with
  | zero => exact absurd HA.out (by simp [selvageref05_tail.l0])
  | succ k1 =>
   have H := HA.out
   clear HA
   simp only [selvageref05_tail.l0] at H
   by_cases c2 : (x0_1.size : Int) > 0
   ·rw [if_pos c2] at H
    have c2b0 : decide (0 < (x0_1.size : Int)) = true := decide_eq_true c2
    have c2b1 : decide (0 < x0_1.size) = true := decide_eq_true (by omega)
    clear c2
    obtain ⟨ji3, hji3⟩ : ∃ j_ : Int, (wrap64 ((x0_1.size : Int) - 1)) = j_ := ⟨_, rfl⟩
    replace H : (if 0 ≤ (ji3) then (if (ji3) < (x0_1.size : Int) then ((selvageref05_Space.f (bt x0_1 (ji3))).bind fun t247 => (if t247 = true then (if (ji3) ≤ (x0_1.size : Int) then (selvageref05_tail.l0 k1 (x0_1.extract 0 ((ji3) : Int).toNat)) else (none)) else (some x0_1))) else (none)) else (none)) = some r := by first | (rw [hji3] at H; exact H) | (simp only [hji3] at H ⊢; exact H)
    have hji3w : (IntKind.i64.wrap ((x0_1.size : Int) - 1)) = ji3 := (i64_w _).trans hji3
    by_cases c4 : 0 ≤ (ji3)
    ·rw [if_pos c4] at H
     have c4b0 : decide (0 ≤ (ji3)) = true := decide_eq_true c4
     clear c4
     by_cases c5 : (ji3) < (x0_1.size : Int)
     ·rw [if_pos c5] at H
      have c5b0 : decide ((ji3) < (x0_1.size : Int)) = true := decide_eq_true c5
      clear c5
      replace H := Option.bind_eq_some_iff.mp H
      obtain ⟨t247, A70, H⟩ := H
      replace H : (if t247 = true then (if (ji3) ≤ (x0_1.size : Int) then (selvageref05_tail.l0 k1 (x0_1.extract 0 ((ji3) : Int).toNat)) else (none)) else (some x0_1)) = some r := H
      have A7 := Aside0.mk A70
      clear A70
      by_cases c8 : t247 = true
      ·subst c8
       have H1 : (if (ji3) ≤ (x0_1.size : Int) then (selvageref05_tail.l0 k1 (x0_1.extract 0 ((ji3) : Int).toNat)) else (none)) = some r := by rw [if_pos rfl] at H; exact H
       clear H
       have H := H1
       clear H1
       have c9b0 := eq_true (ofDec : 0 ≤ (ji3))
       by_cases c10 : (ji3) ≤ (x0_1.size : Int)
       ·rw [if_pos c10] at H
        have c10b0 := eq_true c10
        have c10b1 : decide ((ji3) ≤ (x0_1.size : Int)) = true := decide_eq_true c10
        clear c10
        have H' := Aside0.mk H
        clear H
        have p6 : 0 ≤ ((ji3) : Int) := ofDec
        have q6 : (ji3) < (x0_1.size : Int) := ofDec
        have hx6 := bt_at x0_1 (ji3)
        replace p6 := eq_true p6
        replace q6 := eq_true q6
        go_wp2_with (first | (go_at_call 53; (with_reducible refine (selvageref05_Space.calls (bt x0_1 (ji3)) true _ A7.out).mono ?_); rintro e w' ⟨rfl, ⟨nd, rfl⟩⟩))
        go_roundg k1
        case measure => have := HK1.out; omega
        case rel => exact ⟨(x0_1.extract 0 ((ji3) : Int).toNat), (by first | rfl | (simp; done) | (simp only [← hji3] <;> (first | rfl | simp)) | (simp [*]; done) | (simp [*] <;> rfl)), H', ⟨by have := HK1.out; omega⟩, drawnNow⟩
       ·rw [if_neg c10] at H
        exact absurd H (by simp)
      ·replace c8 := Bool.eq_false_iff.mpr c8
       subst c8
       have H1 : (some x0_1) = some r := by rw [if_neg (show ¬ (false = true) by decide)] at H; exact H
       clear H
       have H := H1
       clear H1
       obtain rfl := Option.some.inj H
       have p6 : 0 ≤ ((ji3) : Int) := ofDec
       have q6 : (ji3) < (x0_1.size : Int) := ofDec
       have hx6 := bt_at x0_1 (ji3)
       replace p6 := eq_true p6
       replace q6 := eq_true q6
       go_wp2_with (first | (go_at_call 53; (with_reducible refine (selvageref05_Space.calls (bt x0_1 (ji3)) false _ A7.out).mono ?_); rintro e w' ⟨rfl, ⟨nd, rfl⟩⟩))
       go_ret
       exact ⟨by first | rfl | (simp; done) | (simp only [← hji3] <;> (first | rfl | simp)) | (simp [*]; done) | (simp [*] <;> rfl) | (simp only [i64_w, i32_w, u8_w]; first | rfl | (simp [errW_none, errW_some] <;> rfl)) | (simp only [bne_nil, beq_nil]; first | rfl | (simp <;> rfl)), drawnNow⟩
     ·rw [if_neg c5] at H
      exact absurd H (by simp)
    ·rw [if_neg c4] at H
     exact absurd H (by simp)
   ·rw [if_neg c2] at H
    have c2b0 : decide (0 < (x0_1.size : Int)) = false := decide_eq_false c2
    have c2b1 : decide (0 < x0_1.size) = false := decide_eq_false (by omega)
    clear c2
    obtain rfl := Option.some.inj H
    go_wp2
    go_ret
    exact ⟨eqFin, drawnNow⟩
def selvageref01_Whole.f (a0 : ByteArray) : Option (Bool) := if (a0.size : Int) > 0 then (if 0 ≤ (wrap64 ((a0.size : Int) - 1)) then (if (wrap64 ((a0.size : Int) - 1)) < (a0.size : Int) then (some ((bt a0 (wrap64 ((a0.size : Int) - 1))) == 10)) else (none)) else (none)) else (some false)
set_option maxHeartbeats 8000000 in
set_option maxRecDepth 100000 in
theorem selvageref01_Whole.calls (a0 : ByteArray) (r : Bool) (w : World) (h : selvageref01_Whole.f a0 = some r) :
  Calls Tryd.prog 54 #[.string a0] w fun e w' => e = .returned (.bool r) ∧ Drawn0 w w' := by
 have H : (if (a0.size : Int) > 0 then (if 0 ≤ (wrap64 ((a0.size : Int) - 1)) then (if (wrap64 ((a0.size : Int) - 1)) < (a0.size : Int) then (some ((bt a0 (wrap64 ((a0.size : Int) - 1))) == 10)) else (none)) else (none)) else (some false)) = some r := h
 clear h
 by_cases c2 : (a0.size : Int) > 0
 ·rw [if_pos c2] at H
  have c2b0 : decide (0 < (a0.size : Int)) = true := decide_eq_true c2
  have c2b1 : decide (0 < a0.size) = true := decide_eq_true (by omega)
  clear c2
  obtain ⟨ji3, hji3⟩ : ∃ j_ : Int, (wrap64 ((a0.size : Int) - 1)) = j_ := ⟨_, rfl⟩
  replace H : (if 0 ≤ (ji3) then (if (ji3) < (a0.size : Int) then (some ((bt a0 (ji3)) == 10)) else (none)) else (none)) = some r := by first | (rw [hji3] at H; exact H) | (simp only [hji3] at H ⊢; exact H)
  have hji3w : (IntKind.i64.wrap ((a0.size : Int) - 1)) = ji3 := (i64_w _).trans hji3
  by_cases c4 : 0 ≤ (ji3)
  ·rw [if_pos c4] at H
   have c4b0 : decide (0 ≤ (ji3)) = true := decide_eq_true c4
   clear c4
   by_cases c5 : (ji3) < (a0.size : Int)
   ·rw [if_pos c5] at H
    have c5b0 : decide ((ji3) < (a0.size : Int)) = true := decide_eq_true c5
    clear c5
    obtain rfl := Option.some.inj H
    have p6 : 0 ≤ ((ji3) : Int) := ofDec
    have q6 : (ji3) < (a0.size : Int) := ofDec
    have hx6 := bt_at a0 (ji3)
    replace p6 := eq_true p6
    replace q6 := eq_true q6
    go_enter Tryd.func54, Tryd.ntmps54
    go_wp2
    go_ret
    exact ⟨by first | rfl | (simp; done) | (simp only [← hji3] <;> (first | rfl | simp)) | (simp [*]; done) | (simp [*] <;> rfl) | (simp only [i64_w, i32_w, u8_w]; first | rfl | (simp [errW_none, errW_some] <;> rfl)) | (simp only [bne_nil, beq_nil]; first | rfl | (simp <;> rfl)), drawnNow⟩
   ·rw [if_neg c5] at H
    exact absurd H (by simp)
  ·rw [if_neg c4] at H
   exact absurd H (by simp)
 ·rw [if_neg c2] at H
  have c2b0 : decide (0 < (a0.size : Int)) = false := decide_eq_false c2
  have c2b1 : decide (0 < a0.size) = false := decide_eq_false (by omega)
  clear c2
  obtain rfl := Option.some.inj H
  go_enter Tryd.func54, Tryd.ntmps54
  go_wp2
  go_ret
  exact ⟨eqFin, drawnNow⟩
def selvageref01_Bare.f (a0 : ByteArray) : Option (ByteArray) := (selvageref01_Whole.f a0).bind fun t248 => (if t248 = true then (if 0 ≤ (wrap64 ((a0.size : Int) - 1)) then (if (wrap64 ((a0.size : Int) - 1)) ≤ (a0.size : Int) then (some (a0.extract 0 ((wrap64 ((a0.size : Int) - 1)) : Int).toNat)) else (none)) else (none)) else (some a0))
set_option maxHeartbeats 8000000 in
set_option maxRecDepth 100000 in
theorem selvageref01_Bare.calls (a0 : ByteArray) (r : ByteArray) (w : World) (h : selvageref01_Bare.f a0 = some r) :
  Calls Tryd.prog 44 #[.string a0] w fun e w' => e = .returned (.string r) ∧ Drawn0 w w' := by
 have H : ((selvageref01_Whole.f a0).bind fun t248 => (if t248 = true then (if 0 ≤ (wrap64 ((a0.size : Int) - 1)) then (if (wrap64 ((a0.size : Int) - 1)) ≤ (a0.size : Int) then (some (a0.extract 0 ((wrap64 ((a0.size : Int) - 1)) : Int).toNat)) else (none)) else (none)) else (some a0))) = some r := h
 clear h
 replace H := Option.bind_eq_some_iff.mp H
 obtain ⟨t248, A20, H⟩ := H
 replace H : (if t248 = true then (if 0 ≤ (wrap64 ((a0.size : Int) - 1)) then (if (wrap64 ((a0.size : Int) - 1)) ≤ (a0.size : Int) then (some (a0.extract 0 ((wrap64 ((a0.size : Int) - 1)) : Int).toNat)) else (none)) else (none)) else (some a0)) = some r := H
 have A2 := Aside0.mk A20
 clear A20
 by_cases c3 : t248 = true
 ·subst c3
  have H1 : (if 0 ≤ (wrap64 ((a0.size : Int) - 1)) then (if (wrap64 ((a0.size : Int) - 1)) ≤ (a0.size : Int) then (some (a0.extract 0 ((wrap64 ((a0.size : Int) - 1)) : Int).toNat)) else (none)) else (none)) = some r := by rw [if_pos rfl] at H; exact H
  clear H
  have H := H1
  clear H1
  obtain ⟨ji4, hji4⟩ : ∃ j_ : Int, (wrap64 ((a0.size : Int) - 1)) = j_ := ⟨_, rfl⟩
  replace H : (if 0 ≤ (ji4) then (if (ji4) ≤ (a0.size : Int) then (some (a0.extract 0 ((ji4) : Int).toNat)) else (none)) else (none)) = some r := by first | (rw [hji4] at H; exact H) | (simp only [hji4] at H ⊢; exact H)
  (try rw [hji4] at A2)
  have hji4w : (IntKind.i64.wrap ((a0.size : Int) - 1)) = ji4 := (i64_w _).trans hji4
  by_cases c5 : 0 ≤ (ji4)
  ·rw [if_pos c5] at H
   have c5b0 := eq_true c5
   have c5b1 : decide (0 ≤ (ji4)) = true := decide_eq_true c5
   clear c5
   by_cases c6 : (ji4) ≤ (a0.size : Int)
   ·rw [if_pos c6] at H
    have c6b0 := eq_true c6
    have c6b1 : decide ((ji4) ≤ (a0.size : Int)) = true := decide_eq_true c6
    clear c6
    obtain rfl := Option.some.inj H
    go_enter Tryd.func44, Tryd.ntmps44
    go_wp2_with (first | ((with_reducible refine gate_callee (f := 54) rfl ?_); refine goesL_ (some 4) rfl rfl Tryd.func54 (by kernel_rfl) rfl #[.string a0] rfl argsOk ?_; (with_reducible refine (selvageref01_Whole.calls a0 true _ A2.out).mono ?_); rintro e w' ⟨rfl, ⟨nd, rfl⟩⟩; refine ⟨_, rfl, ?_⟩))
    go_ret
    exact ⟨by first | rfl | (simp; done) | (simp only [← hji4] <;> (first | rfl | simp)) | (simp [*]; done) | (simp [*] <;> rfl) | (simp only [i64_w, i32_w, u8_w]; first | rfl | (simp [errW_none, errW_some] <;> rfl)) | (simp only [bne_nil, beq_nil]; first | rfl | (simp <;> rfl)), drawnNow⟩
   ·rw [if_neg c6] at H
    exact absurd H (by simp)
  ·rw [if_neg c5] at H
   exact absurd H (by simp)
 ·replace c3 := Bool.eq_false_iff.mpr c3
  subst c3
  have H1 : (some a0) = some r := by rw [if_neg (show ¬ (false = true) by decide)] at H; exact H
  clear H
  have H := H1
  clear H1
  obtain rfl := Option.some.inj H
  go_enter Tryd.func44, Tryd.ntmps44
  go_wp2_with (first | ((with_reducible refine gate_callee (f := 54) rfl ?_); refine goesL_ (some 4) rfl rfl Tryd.func54 (by kernel_rfl) rfl #[.string a0] rfl argsOk ?_; (with_reducible refine (selvageref01_Whole.calls a0 false _ A2.out).mono ?_); rintro e w' ⟨rfl, ⟨nd, rfl⟩⟩; refine ⟨_, rfl, ?_⟩))
  go_ret
  exact ⟨eqFin, drawnNow⟩
def selvageref05_Blank.f (k : Nat) (a0 : ByteArray) : Option (Bool) := (selvageref01_Bare.f a0).bind fun t249 => ((selvageref05_tail.f k t249).bind fun t250 => (some (t250.toList == ([] : List UInt8))))
set_option maxHeartbeats 8000000 in
set_option maxRecDepth 100000 in
theorem selvageref05_Blank.calls (k : Nat) (a0 : ByteArray) (r : Bool) (w : World) (h : selvageref05_Blank.f k a0 = some r) :
  Calls Tryd.prog 37 #[.string a0] w fun e w' => e = .returned (.bool r) ∧ Drawn0 w w' := by
 have H : ((selvageref01_Bare.f a0).bind fun t249 => ((selvageref05_tail.f k t249).bind fun t250 => (some (t250.toList == ([] : List UInt8))))) = some r := h
 clear h
 replace H := Option.bind_eq_some_iff.mp H
 obtain ⟨t249, A20, H⟩ := H
 replace H : ((selvageref05_tail.f k t249).bind fun t250 => (some (t250.toList == ([] : List UInt8)))) = some r := H
 have A2 := Aside0.mk A20
 clear A20
 replace H := Option.bind_eq_some_iff.mp H
 obtain ⟨t250, A30, H⟩ := H
 replace H : (some (t250.toList == ([] : List UInt8))) = some r := H
 have A3 := Aside0.mk A30
 clear A30
 obtain rfl := Option.some.inj H
 go_enter Tryd.func37, Tryd.ntmps37
 go_wp2_with (first | ((with_reducible refine gate_callee (f := 44) rfl ?_); refine goesL_ (some 4) rfl rfl Tryd.func44 (by kernel_rfl) rfl #[.string a0] rfl argsOk ?_; (with_reducible refine (selvageref01_Bare.calls a0 t249 _ A2.out).mono ?_); rintro e w' ⟨rfl, ⟨nd, rfl⟩⟩; refine ⟨_, rfl, ?_⟩) | ((with_reducible refine gate_callee (f := 43) rfl ?_); refine goesL_ (some 5) rfl rfl Tryd.func43 (by kernel_rfl) rfl #[.string t249] rfl argsOk ?_; (with_reducible refine (selvageref05_tail.calls k t249 t250 _ A3.out).mono ?_); rintro e w' ⟨rfl, ⟨nd, rfl⟩⟩; refine ⟨_, rfl, ?_⟩))
 go_ret
 exact ⟨eqFin, drawnNow⟩
end Go.Proofs.YtmfanpibpmajnaaDoor.Pp
