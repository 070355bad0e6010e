-- Printed by this session's pp.py over the kit's printer, out of the translation. Lean checks it.
import Derived.Test.YtfempodohmhhlaaDoorESq
import Derived.Test.YtfempodohmhhlaaDoorPp0
import Derived.Test.YtfempodohmhhlaaDoorPp11
namespace Go.Proofs.YtfempodohmhhlaaDoor.Pp
open Go.RowKit Go.Proofs.YtfempodohmhhlaaDoor.Ext Go.Proofs.YtfempodohmhhlaaDoorW.PrintWords Go.Proofs.YtfempodohmhhlaaDoorW.PrintLast Go.Proofs.YtfempodohmhhlaaDoorW.PrintMore
attribute [local go_sem] max2_int min2_int max_two min_two max_three min_three max_four min_four   -- for this text's walks alone
set_option linter.unusedVariables false
set_option linter.unusedSimpArgs false
mutual
def selvageref02_Unquote.j0 : Nat → ByteArray → List Int → Bool → Option (ByteArray × ByteArray × Int)
 | 0, _, _, _ => none
 | k + 1, x0, x5, x16 => if x16 = true then (selvageref02_Unquote.l0 k x0 0) else (selvageref02_Unquote.l1 k x0 x5 1)
def selvageref02_Unquote.l0 : Nat → ByteArray → Int → Option (ByteArray × ByteArray × Int)
 | 0, _, _ => none
 | k + 1, x0, x6 => if x6 < (x0.size : Int) then (if 0 ≤ x6 then (if (bt x0 x6) = 9 then (if x6 ≤ (x0.size : Int) then (some (x0.extract 0 (x6 : Int).toNat, x0.extract (x6 : Int).toNat x0.size, 0)) else (none)) else (if (bt x0 x6) = 10 then (if x6 ≤ (x0.size : Int) then (some (x0.extract 0 (x6 : Int).toNat, x0.extract (x6 : Int).toNat x0.size, 0)) else (none)) else (selvageref02_Unquote.l0 k x0 (wrap64 (x6 + 1))))) else (none)) else (if 0 ≤ x6 then (if x6 ≤ (x0.size : Int) then (some (x0.extract 0 (x6 : Int).toNat, x0.extract (x6 : Int).toNat x0.size, 0)) else (none)) else (none))
def selvageref02_Unquote.l1 : Nat → ByteArray → List Int → Int → Option (ByteArray × ByteArray × Int)
 | 0, _, _, _ => none
 | k + 1, x0, x5, x7 => if x7 < (x0.size : Int) then (if 0 ≤ x7 then (if (bt x0 x7) = 34 then (selvageref02_Unquote.j3 k x0 x5 x7 false) else (selvageref02_Unquote.j3 k x0 x5 x7 ((bt x0 x7) != 10))) else (none)) else (selvageref02_Unquote.j3 k x0 x5 x7 false)
def selvageref02_Unquote.j3 : Nat → ByteArray → List Int → Int → Bool → Option (ByteArray × ByteArray × Int)
 | 0, _, _, _, _ => none
 | k + 1, x0, x5, x7, x56 => if x56 = true then (if 0 ≤ x7 then (if x7 < (x0.size : Int) then (if (bt x0 x7) = 92 then (if x7 ≤ (x0.size : Int) then ((selvageref02_read.f k (x0.extract (x7 : Int).toNat x0.size)).bind fun bt260 => (if bt260.2 = 0 then (some ((⟨#[]⟩ : ByteArray), (⟨#[]⟩ : ByteArray), 20)) else (if x5.length < 140737488355328 then (selvageref02_Unquote.l1 k x0 (x5 ++ [bt260.1]) (wrap64 (x7 + bt260.2))) else (none)))) else (none)) else (if x5.length < 140737488355328 then (selvageref02_Unquote.l1 k x0 (x5 ++ [bt x0 x7]) (wrap64 (x7 + 1))) else (none))) else (none)) else (none)) else (if x7 ≥ (x0.size : Int) then (some ((⟨#[]⟩ : ByteArray), (⟨#[]⟩ : ByteArray), 20)) else (if 0 ≤ x7 then (if x7 < (x0.size : Int) then (if (bt x0 x7) = 10 then (some ((⟨#[]⟩ : ByteArray), (⟨#[]⟩ : ByteArray), 20)) else (if 0 ≤ (wrap64 (x7 + 1)) then (if (wrap64 (x7 + 1)) ≤ (x0.size : Int) then (some (strOfNums x5, x0.extract ((wrap64 (x7 + 1)) : Int).toNat x0.size, 0)) else (none)) else (none))) else (none)) else (none)))
end
def selvageref02_Unquote.f (k : Nat) (a0 : ByteArray) : Option (ByteArray × ByteArray × Int) := if a0.toList = ([] : List UInt8) then (selvageref02_Unquote.j0 k a0 ([] : List Int) true) else (if 0 < (a0.size : Int) then (selvageref02_Unquote.j0 k a0 ([] : List Int) ((bt a0 0) != 34)) else (none))
set_option maxHeartbeats 8000000 in
set_option maxRecDepth 100000 in
theorem selvageref02_Unquote.calls (k : Nat) (a0 : ByteArray) (r1 : ByteArray) (r2 : ByteArray) (r3 : Int) (w : World) (h : selvageref02_Unquote.f k a0 = some (r1, r2, r3)) :
  Calls Tryd.prog 47 #[.string a0] w fun e w' => e = .returned (.tuple #[.string r1, .string r2, .int .i64 r3]) ∧ Below w.heap.size w w' := by
 have HB := Aside0.mk (Below.refl w.heap.size w)
 have H : (if a0.toList = ([] : List UInt8) then (selvageref02_Unquote.j0 k a0 ([] : List Int) true) else (if 0 < (a0.size : Int) then (selvageref02_Unquote.j0 k a0 ([] : List Int) ((bt a0 0) != 34)) else (none))) = some (r1, r2, r3) := h
 clear h
 have HC2 := Aside0.mk H
 clear H
 go_enter Tryd.func47, Tryd.ntmps47
 go_upto_region 2 with (fail)
 repeat (go_quiet (fail); go_upto_region 2 with (fail))
 go_cut [16] (fun v16 wc => ∃ (kq : Nat) (x16_1 : Bool), v16 = .bool x16_1 ∧ Aside0 (selvageref02_Unquote.j0 kq a0 ([] : List Int) x16_1 = some (r1, r2, r3)) ∧ Aside0 (kq ≤ k) ∧ Aside0 (Kd.R (Kd.int .u8) 5 wc w.heap.size (fun _ => True) (.slice none 0 0) ([] : List Int)) ∧ Aside0 (Below w.heap.size w wc))
 case first =>
  have H := HC2.out
  clear HC2
  by_cases c3 : a0.toList = ([] : List UInt8)
  ·rw [if_pos c3] at H
   have c3b0 : (a0.toList == ([] : List UInt8)) = true := beq_iff_eq.mpr c3
   have c3b1 : (a0.toList != ([] : List UInt8)) = false := bne_eq_false_iff_eq.mpr c3
   clear c3
   (first | rw [c3b0] | (simp only [i64_w, i32_w]; rw [c3b0]) | skip)
   have H' := Aside0.mk H
   clear H
   go_wp2
   repeat (go_quiet (fail); try go_wp2)
   go_meet
   case rel => exact ⟨_, (true), eqNow, H', ⟨by first | omega | exact Nat.le_refl _⟩, ⟨by first | exact Kd.R_nil _ _ _ _ _ | exact Kd.N_nil _ _ _ _ _ | exact Kd.V_nil _ _ _ _ _ | exact Kd.Q_nil _ _ _ _ _ | exact Kd.S_nil _ _ _ _ _⟩, ⟨belNow⟩⟩
  ·rw [if_neg c3] at H
   have c3b0 : (a0.toList == ([] : List UInt8)) = false := beq_eq_false_iff_ne.mpr c3
   have c3b1 : (a0.toList != ([] : List UInt8)) = true := bne_iff_ne.mpr c3
   (first | rw [c3b0] | (simp only [i64_w, i32_w]; rw [c3b0]) | skip)
   by_cases c4 : 0 < (a0.size : Int)
   ·rw [if_pos c4] at H
    have c4b0 : decide (0 < (a0.size : Int)) = true := decide_eq_true c4
    have c4b1 : decide (0 < a0.size) = true := decide_eq_true (by omega)
    clear c4
    have H' := Aside0.mk H
    clear H
    have p5 : 0 ≤ (0 : Int) := (by omega)
    have q5 : 0 < a0.size := (by have : (0 : Int) < (a0.size : Int) := ofDec; omega)
    have hx5 : ∀ h : 0 < a0.size, ((a0[0]'h).toNat : Int) = bt a0 0 := bt_at a0 0
    clear p5
    have qi5 : (0 < (a0.size : Int)) = True := eq_true (ofDec)
    replace q5 := eq_true q5
    go_wp2
    repeat (go_quiet (fail); try go_wp2)
    go_meet
    case rel => exact ⟨_, (((bt a0 0) != 34)), eqNow, H', ⟨by first | omega | exact Nat.le_refl _⟩, ⟨by first | exact Kd.R_nil _ _ _ _ _ | exact Kd.N_nil _ _ _ _ _ | exact Kd.V_nil _ _ _ _ _ | exact Kd.Q_nil _ _ _ _ _ | exact Kd.S_nil _ _ _ _ _⟩, ⟨belNow⟩⟩
   ·rw [if_neg c4] at H
    exact absurd H (by simp)
 case rest =>
  clear HC2
  try clear p2
  try clear c3
  try clear c3b0
  try clear c3b1
  try clear c4
  try clear c4b0
  try clear c4b1
  try clear p5
  try clear q5
  try clear hx5
  try clear qi5
  try clear p5
  try clear q5
  obtain ⟨kq, x16_1, rfl, HA, HJ1, HO_5, HB⟩ := hcut
  cases kq with
  | zero => exact absurd HA.out (by simp [selvageref02_Unquote.j0])
  | succ kj1 =>
   have H := HA.out
   clear HA
   simp only [selvageref02_Unquote.j0] at H
   by_cases c6 : x16_1 = true
   ·subst c6
    have H1 : (selvageref02_Unquote.l0 kj1 a0 0) = some (r1, r2, r3) := by rw [if_pos rfl] at H; exact H
    clear H
    have H := H1
    clear H1
    have H' := Aside0.mk H
    clear H
    go_wp2
    repeat (go_quiet (fail); try go_wp2)
    go_loopg [6] kj1 (fun kq v6 w' => ∃ (x6_2 : Int), v6 = .int .i64 x6_2 ∧ Aside0 (selvageref02_Unquote.l0 kq a0 x6_2 = some (r1, r2, r3)) ∧ Aside0 (kq ≤ kj1) ∧ Aside0 (Below w.heap.size w w'))
    case atStart => exact ⟨(0), eqNow, H', ⟨Nat.le_refl _⟩, ⟨belNow⟩⟩
    case round =>
     clear H'
     try clear p2
     try clear c3
     try clear c3b0
     try clear c3b1
     try clear c4
     try clear c4b0
     try clear c4b1
     try clear p5
     try clear q5
     try clear hx5
     try clear qi5
     try clear c6
     try clear p2
     try clear p5
     try clear q5
     obtain ⟨x6_2, rfl, HA, HK2, HB⟩ := hrel
     cases gk with
     | zero => exact absurd HA.out (by simp [selvageref02_Unquote.l0])
     | succ k2 =>
      have H := HA.out
      clear HA
      simp only [selvageref02_Unquote.l0] at H
      by_cases c7 : x6_2 < (a0.size : Int)
      ·rw [if_pos c7] at H
       have c7b0 : decide (x6_2 < (a0.size : Int)) = true := decide_eq_true c7
       clear c7
       by_cases c8 : 0 ≤ x6_2
       ·rw [if_pos c8] at H
        have c8b0 : decide (0 ≤ x6_2) = true := decide_eq_true c8
        clear c8
        by_cases c10 : (bt a0 x6_2) = 9
        ·rw [if_pos c10] at H
         have c10b0 : ((bt a0 x6_2) == 9) = true := beq_iff_eq.mpr c10
         have c10b1 : ((bt a0 x6_2) != 9) = false := bne_eq_false_iff_eq.mpr c10
         clear c10
         have c11b0 := eq_true (ofDec : 0 ≤ x6_2)
         by_cases c12 : x6_2 ≤ (a0.size : Int)
         ·rw [if_pos c12] at H
          have c12b0 := eq_true c12
          have c12b1 : decide (x6_2 ≤ (a0.size : Int)) = true := decide_eq_true c12
          clear c12
          have c13b0 := eq_true (ofDec : 0 ≤ x6_2)
          have c14b0 := eq_true (ofDec : x6_2 ≤ (a0.size : Int))
          simp only [Option.some.injEq, Prod.mk.injEq] at H
          obtain ⟨rfl, rfl, rfl⟩ := H
          have p9 : 0 ≤ (x6_2 : Int) := ofDec
          have q9 : x6_2 < (a0.size : Int) := ofDec
          have hx9 := bt_at a0 x6_2
          replace p9 := eq_true p9
          replace q9 := eq_true q9
          go_wp2
          repeat (go_quiet (fail); try go_wp2)
          go_ret3
          exact ⟨eqEnd, belNow⟩
         ·rw [if_neg c12] at H
          exact absurd H (by simp)
        ·rw [if_neg c10] at H
         have c10b0 : ((bt a0 x6_2) == 9) = false := beq_eq_false_iff_ne.mpr c10
         have c10b1 : ((bt a0 x6_2) != 9) = true := bne_iff_ne.mpr c10
         by_cases c16 : (bt a0 x6_2) = 10
         ·rw [if_pos c16] at H
          have c16b0 : ((bt a0 x6_2) == 10) = true := beq_iff_eq.mpr c16
          have c16b1 : ((bt a0 x6_2) != 10) = false := bne_eq_false_iff_eq.mpr c16
          clear c16
          have c17b0 := eq_true (ofDec : 0 ≤ x6_2)
          by_cases c18 : x6_2 ≤ (a0.size : Int)
          ·rw [if_pos c18] at H
           have c18b0 := eq_true c18
           have c18b1 : decide (x6_2 ≤ (a0.size : Int)) = true := decide_eq_true c18
           clear c18
           have c19b0 := eq_true (ofDec : 0 ≤ x6_2)
           have c20b0 := eq_true (ofDec : x6_2 ≤ (a0.size : Int))
           simp only [Option.some.injEq, Prod.mk.injEq] at H
           obtain ⟨rfl, rfl, rfl⟩ := H
           have p9 : 0 ≤ (x6_2 : Int) := ofDec
           have q9 : x6_2 < (a0.size : Int) := ofDec
           have hx9 := bt_at a0 x6_2
           replace p9 := eq_true p9
           replace q9 := eq_true q9
           have p15 : 0 ≤ (x6_2 : Int) := ofDec
           have q15 : x6_2 < (a0.size : Int) := ofDec
           have hx15 := bt_at a0 x6_2
           replace p15 := eq_true p15
           replace q15 := eq_true q15
           go_wp2
           repeat (go_quiet (fail); try go_wp2)
           go_ret3
           exact ⟨eqEnd, belNow⟩
          ·rw [if_neg c18] at H
           exact absurd H (by simp)
         ·rw [if_neg c16] at H
          have c16b0 : ((bt a0 x6_2) == 10) = false := beq_eq_false_iff_ne.mpr c16
          have c16b1 : ((bt a0 x6_2) != 10) = true := bne_iff_ne.mpr c16
          have H' := Aside0.mk H
          clear H
          have p9 : 0 ≤ (x6_2 : Int) := ofDec
          have q9 : x6_2 < (a0.size : Int) := ofDec
          have hx9 := bt_at a0 x6_2
          replace p9 := eq_true p9
          replace q9 := eq_true q9
          have p15 : 0 ≤ (x6_2 : Int) := ofDec
          have q15 : x6_2 < (a0.size : Int) := ofDec
          have hx15 := bt_at a0 x6_2
          replace p15 := eq_true p15
          replace q15 := eq_true q15
          go_wp2
          repeat (go_quiet (fail); try go_wp2)
          go_roundg k2
          case measure => have := HJ1.out; have := HK2.out; omega
          case rel => exact ⟨(wrap64 (x6_2 + 1)), eqNow, H', ⟨by have := HJ1.out; have := HK2.out; omega⟩, ⟨belNow⟩⟩
       ·rw [if_neg c8] at H
        exact absurd H (by simp)
      ·rw [if_neg c7] at H
       have c7b0 : decide (x6_2 < (a0.size : Int)) = false := decide_eq_false c7
       clear c7
       by_cases c21 : 0 ≤ x6_2
       ·rw [if_pos c21] at H
        have c21b0 := eq_true c21
        have c21b1 : decide (0 ≤ x6_2) = true := decide_eq_true c21
        clear c21
        by_cases c22 : x6_2 ≤ (a0.size : Int)
        ·rw [if_pos c22] at H
         have c22b0 := eq_true c22
         have c22b1 : decide (x6_2 ≤ (a0.size : Int)) = true := decide_eq_true c22
         clear c22
         have c23b0 := eq_true (ofDec : 0 ≤ x6_2)
         have c24b0 := eq_true (ofDec : x6_2 ≤ (a0.size : Int))
         simp only [Option.some.injEq, Prod.mk.injEq] at H
         obtain ⟨rfl, rfl, rfl⟩ := H
         go_wp2
         repeat (go_quiet (fail); try go_wp2)
         go_ret3
         exact ⟨eqEnd, belNow⟩
        ·rw [if_neg c22] at H
         exact absurd H (by simp)
       ·rw [if_neg c21] at H
        exact absurd H (by simp)
   ·replace c6 := Bool.eq_false_iff.mpr c6
    subst c6
    have H1 : (selvageref02_Unquote.l1 kj1 a0 ([] : List Int) 1) = some (r1, r2, r3) := by rw [if_neg (show ¬ (false = true) by decide)] at H; exact H
    clear H
    have H := H1
    clear H1
    have H' := Aside0.mk H
    clear H
    go_wp2
    repeat (go_quiet (fail); try go_wp2)
    go_loopg [5, 7] kj1 (fun kq v5 v7 w' => ∃ (x5_2 : List Int) (x7_2 : Int), v7 = .int .i64 x7_2 ∧ Aside0 (selvageref02_Unquote.l1 kq a0 x5_2 x7_2 = some (r1, r2, r3)) ∧ Aside0 (kq ≤ kj1) ∧ Aside0 (Kd.R (Kd.int .u8) 5 w' w.heap.size (fun _ => True) v5 x5_2) ∧ Aside0 (Below w.heap.size w w'))
    case atStart => exact ⟨(([] : List Int)), (1), eqNow, H', ⟨Nat.le_refl _⟩, ⟨by (with_reducible repeat (first | apply Kd.R_alloc | apply Kd.R_drewN | apply Kd.R_drew)); (first | exact HO_5.out | exact Kd.R_mono HO_5.out (fun k_ h_ h2_ => h_ (h2_.trans ((fun (A_ : Option Addr) (n_ m_ c_ : Nat) => (show (Value.slice A_ n_ c_).ownBlock = (Value.slice A_ m_ c_).ownBlock by cases A_ <;> rfl)) _ _ _ _))))⟩, ⟨belNow⟩⟩
    case round =>
     clear H'
     try clear c1
     try clear p1
     try clear q1
     try clear hx1
     try clear c2
     try clear p2
     try clear c3
     try clear c3b0
     try clear c3b1
     try clear c4
     try clear c4b0
     try clear c4b1
     try clear p5
     try clear q5
     try clear hx5
     try clear qi5
     try clear c6
     try clear p6
     try clear c7
     try clear c7b0
     try clear c8
     try clear c8b0
     try clear p9
     try clear q9
     try clear hx9
     try clear c10
     try clear c10b0
     try clear c10b1
     try clear c11
     try clear c11b0
     try clear c12
     try clear c12b0
     try clear c12b1
     try clear c13
     try clear c13b0
     try clear c14
     try clear c14b0
     try clear p15
     try clear q15
     try clear hx15
     try clear c16
     try clear c16b0
     try clear c16b1
     try clear c17
     try clear c17b0
     try clear c18
     try clear c18b0
     try clear c18b1
     try clear c19
     try clear c19b0
     try clear c20
     try clear c20b0
     try clear c21
     try clear c21b0
     try clear c21b1
     try clear c22
     try clear c22b0
     try clear c22b1
     try clear c23
     try clear c23b0
     try clear c24
     try clear c24b0
     try clear p15
     try clear p2
     try clear p5
     try clear p9
     try clear q15
     try clear q5
     try clear q9
     obtain ⟨x5_2, x7_2, rfl, HA, HK2, HO_5, HB⟩ := hrel
     cases gk with
     | zero => exact absurd HA.out (by simp [selvageref02_Unquote.l1])
     | succ k2 =>
      have H := HA.out
      clear HA
      simp only [selvageref02_Unquote.l1] at H
      have HC25 := Aside0.mk H
      clear H
      go_upto_region 8 with (fail)
      repeat (go_quiet (fail); go_upto_region 8 with (fail))
      go_cut [56] (fun v56 wc => ∃ (kq : Nat) (x56_24 : Bool), v56 = .bool x56_24 ∧ Aside0 (selvageref02_Unquote.j3 kq a0 x5_2 x7_2 x56_24 = some (r1, r2, r3)) ∧ Aside0 (kq ≤ k2) ∧ Aside0 (Kd.R (Kd.int .u8) 5 wc w.heap.size (fun _ => True) u5 x5_2) ∧ Aside0 (Below w.heap.size w wc))
      case first =>
       have H := HC25.out
       clear HC25
       by_cases c26 : x7_2 < (a0.size : Int)
       ·rw [if_pos c26] at H
        have c26b0 : decide (x7_2 < (a0.size : Int)) = true := decide_eq_true c26
        clear c26
        (first | rw [c26b0] | (simp only [i64_w, i32_w]; rw [c26b0]) | skip)
        by_cases c27 : 0 ≤ x7_2
        ·rw [if_pos c27] at H
         have c27b0 : decide (0 ≤ x7_2) = true := decide_eq_true c27
         clear c27
         by_cases c29 : (bt a0 x7_2) = 34
         ·rw [if_pos c29] at H
          have c29b0 : ((bt a0 x7_2) == 34) = true := beq_iff_eq.mpr c29
          have c29b1 : ((bt a0 x7_2) != 34) = false := bne_eq_false_iff_eq.mpr c29
          clear c29
          have H' := Aside0.mk H
          clear H
          have p28 : 0 ≤ (x7_2 : Int) := ofDec
          have q28 : x7_2 < (a0.size : Int) := ofDec
          have hx28 := bt_at a0 x7_2
          replace p28 := eq_true p28
          replace q28 := eq_true q28
          go_wp2
          repeat (go_quiet (fail); try go_wp2)
          go_meet
          case rel => exact ⟨_, (false), eqNow, H', ⟨by have := HJ1.out; have := HK2.out; first | omega | exact Nat.le_refl _⟩, ⟨by (with_reducible repeat (first | apply Kd.R_alloc | apply Kd.R_drewN | apply Kd.R_drew)); (first | exact HO_5.out | exact Kd.R_mono HO_5.out (fun k_ h_ h2_ => h_ (h2_.trans ((fun (A_ : Option Addr) (n_ m_ c_ : Nat) => (show (Value.slice A_ n_ c_).ownBlock = (Value.slice A_ m_ c_).ownBlock by cases A_ <;> rfl)) _ _ _ _))))⟩, ⟨belNow⟩⟩
         ·rw [if_neg c29] at H
          have c29b0 : ((bt a0 x7_2) == 34) = false := beq_eq_false_iff_ne.mpr c29
          have c29b1 : ((bt a0 x7_2) != 34) = true := bne_iff_ne.mpr c29
          have H' := Aside0.mk H
          clear H
          have p28 : 0 ≤ (x7_2 : Int) := ofDec
          have q28 : x7_2 < (a0.size : Int) := ofDec
          have hx28 := bt_at a0 x7_2
          replace p28 := eq_true p28
          replace q28 := eq_true q28
          have p30 : 0 ≤ (x7_2 : Int) := ofDec
          have q30 : x7_2 < (a0.size : Int) := ofDec
          have hx30 := bt_at a0 x7_2
          replace p30 := eq_true p30
          replace q30 := eq_true q30
          go_wp2
          repeat (go_quiet (fail); try go_wp2)
          go_meet
          case rel => exact ⟨_, (((bt a0 x7_2) != 10)), eqNow, H', ⟨by have := HJ1.out; have := HK2.out; first | omega | exact Nat.le_refl _⟩, ⟨by (with_reducible repeat (first | apply Kd.R_alloc | apply Kd.R_drewN | apply Kd.R_drew)); (first | exact HO_5.out | exact Kd.R_mono HO_5.out (fun k_ h_ h2_ => h_ (h2_.trans ((fun (A_ : Option Addr) (n_ m_ c_ : Nat) => (show (Value.slice A_ n_ c_).ownBlock = (Value.slice A_ m_ c_).ownBlock by cases A_ <;> rfl)) _ _ _ _))))⟩, ⟨belNow⟩⟩
        ·rw [if_neg c27] at H
         exact absurd H (by simp)
       ·rw [if_neg c26] at H
        have c26b0 : decide (x7_2 < (a0.size : Int)) = false := decide_eq_false c26
        clear c26
        (first | rw [c26b0] | (simp only [i64_w, i32_w]; rw [c26b0]) | skip)
        have H' := Aside0.mk H
        clear H
        go_wp2
        repeat (go_quiet (fail); try go_wp2)
        go_meet
        case rel => exact ⟨_, (false), eqNow, H', ⟨by have := HJ1.out; have := HK2.out; first | omega | exact Nat.le_refl _⟩, ⟨by (with_reducible repeat (first | apply Kd.R_alloc | apply Kd.R_drewN | apply Kd.R_drew)); (first | exact HO_5.out | exact Kd.R_mono HO_5.out (fun k_ h_ h2_ => h_ (h2_.trans ((fun (A_ : Option Addr) (n_ m_ c_ : Nat) => (show (Value.slice A_ n_ c_).ownBlock = (Value.slice A_ m_ c_).ownBlock by cases A_ <;> rfl)) _ _ _ _))))⟩, ⟨belNow⟩⟩
      case rest =>
       clear HC25
       try clear c1
       try clear p1
       try clear q1
       try clear hx1
       try clear c2
       try clear p2
       try clear q2
       try clear hx2
       try clear c3
       try clear c3b0
       try clear c3b1
       try clear p3
       try clear q3
       try clear hx3
       try clear c4
       try clear c4b0
       try clear c4b1
       try clear p5
       try clear q5
       try clear hx5
       try clear qi5
       try clear c6
       try clear p6
       try clear c7
       try clear c7b0
       try clear c8
       try clear c8b0
       try clear p9
       try clear q9
       try clear hx9
       try clear c10
       try clear c10b0
       try clear c10b1
       try clear c11
       try clear c11b0
       try clear c12
       try clear c12b0
       try clear c12b1
       try clear c13
       try clear c13b0
       try clear c14
       try clear c14b0
       try clear p15
       try clear q15
       try clear hx15
       try clear c16
       try clear c16b0
       try clear c16b1
       try clear c17
       try clear c17b0
       try clear c18
       try clear c18b0
       try clear c18b1
       try clear c19
       try clear c19b0
       try clear c20
       try clear c20b0
       try clear c21
       try clear c21b0
       try clear c21b1
       try clear c22
       try clear c22b0
       try clear c22b1
       try clear c23
       try clear c23b0
       try clear c24
       try clear c24b0
       try clear c26
       try clear c26b0
       try clear c27
       try clear c27b0
       try clear p28
       try clear q28
       try clear hx28
       try clear c29
       try clear c29b0
       try clear c29b1
       try clear p30
       try clear q30
       try clear hx30
       try clear p1
       try clear p15
       try clear p2
       try clear p28
       try clear p30
       try clear p5
       try clear p6
       try clear p9
       try clear q1
       try clear q15
       try clear q28
       try clear q30
       try clear q5
       try clear q9
       obtain ⟨kq, x56_24, rfl, HA, HJ24, HO_5, HB⟩ := hcut
       cases kq with
       | zero => exact absurd HA.out (by simp [selvageref02_Unquote.j3])
       | succ kj24 =>
        have H := HA.out
        clear HA
        simp only [selvageref02_Unquote.j3] at H
        by_cases c31 : x56_24 = true
        ·subst c31
         have H1 : (if 0 ≤ x7_2 then (if x7_2 < (a0.size : Int) then (if (bt a0 x7_2) = 92 then (if x7_2 ≤ (a0.size : Int) then ((selvageref02_read.f kj24 (a0.extract (x7_2 : Int).toNat a0.size)).bind fun bt260 => (if bt260.2 = 0 then (some ((⟨#[]⟩ : ByteArray), (⟨#[]⟩ : ByteArray), 20)) else (if x5_2.length < 140737488355328 then (selvageref02_Unquote.l1 kj24 a0 (x5_2 ++ [bt260.1]) (wrap64 (x7_2 + bt260.2))) else (none)))) else (none)) else (if x5_2.length < 140737488355328 then (selvageref02_Unquote.l1 kj24 a0 (x5_2 ++ [bt a0 x7_2]) (wrap64 (x7_2 + 1))) else (none))) else (none)) else (none)) = some (r1, r2, r3) := by rw [if_pos rfl] at H; exact H
         clear H
         have H := H1
         clear H1
         by_cases c32 : 0 ≤ x7_2
         ·rw [if_pos c32] at H
          have c32b0 : decide (0 ≤ x7_2) = true := decide_eq_true c32
          clear c32
          by_cases c33 : x7_2 < (a0.size : Int)
          ·rw [if_pos c33] at H
           have c33b0 : decide (x7_2 < (a0.size : Int)) = true := decide_eq_true c33
           clear c33
           by_cases c35 : (bt a0 x7_2) = 92
           ·rw [if_pos c35] at H
            have c35b0 : ((bt a0 x7_2) == 92) = true := beq_iff_eq.mpr c35
            have c35b1 : ((bt a0 x7_2) != 92) = false := bne_eq_false_iff_eq.mpr c35
            clear c35
            have c36b0 := eq_true (ofDec : 0 ≤ x7_2)
            by_cases c37 : x7_2 ≤ (a0.size : Int)
            ·rw [if_pos c37] at H
             have c37b0 := eq_true c37
             have c37b1 : decide (x7_2 ≤ (a0.size : Int)) = true := decide_eq_true c37
             clear c37
             replace H := Option.bind_eq_some_iff.mp H
             obtain ⟨⟨t260, t261⟩, A380, H⟩ := H
             replace H : (if t261 = 0 then (some ((⟨#[]⟩ : ByteArray), (⟨#[]⟩ : ByteArray), 20)) else (if x5_2.length < 140737488355328 then (selvageref02_Unquote.l1 kj24 a0 (x5_2 ++ [t260]) (wrap64 (x7_2 + t261))) else (none))) = some (r1, r2, r3) := H
             have A38 := Aside0.mk A380
             clear A380
             by_cases c39 : t261 = 0
             ·rw [if_pos c39] at H
              have c39b0 : (t261 == 0) = true := beq_iff_eq.mpr c39
              have c39b1 : (t261 != 0) = false := bne_eq_false_iff_eq.mpr c39
              clear c39
              simp only [Option.some.injEq, Prod.mk.injEq] at H
              obtain ⟨rfl, rfl, rfl⟩ := H
              have p34 : 0 ≤ (x7_2 : Int) := ofDec
              have q34 : x7_2 < (a0.size : Int) := ofDec
              have hx34 := bt_at a0 x7_2
              replace p34 := eq_true p34
              replace q34 := eq_true q34
              go_wp2_with (first | (go_at_call 65; (with_reducible refine (selvageref02_read.calls kj24 (a0.extract (x7_2 : Int).toNat a0.size) t260 t261 _ A38.out).mono ?_); rintro e w' ⟨rfl, ⟨nd, rfl⟩⟩; (try first | exact ⟨rfl, _, World.drewN_drewN _ _ _⟩ | exact ⟨rfl, _, Eq.trans (World.drewN_drewN _ _ _) (congrArg (World.drewN _) (Nat.add_assoc _ _ _))⟩)))
              repeat (go_quiet (first | (go_at_call 65; (with_reducible refine (selvageref02_read.calls kj24 (a0.extract (x7_2 : Int).toNat a0.size) t260 t261 _ A38.out).mono ?_); rintro e w' ⟨rfl, ⟨nd, rfl⟩⟩; (try first | exact ⟨rfl, _, World.drewN_drewN _ _ _⟩ | exact ⟨rfl, _, Eq.trans (World.drewN_drewN _ _ _) (congrArg (World.drewN _) (Nat.add_assoc _ _ _))⟩))); try go_wp2_with (first | (go_at_call 65; (with_reducible refine (selvageref02_read.calls kj24 (a0.extract (x7_2 : Int).toNat a0.size) t260 t261 _ A38.out).mono ?_); rintro e w' ⟨rfl, ⟨nd, rfl⟩⟩; (try first | exact ⟨rfl, _, World.drewN_drewN _ _ _⟩ | exact ⟨rfl, _, Eq.trans (World.drewN_drewN _ _ _) (congrArg (World.drewN _) (Nat.add_assoc _ _ _))⟩))))
              go_ret3
              exact ⟨eqEnd, belNow⟩
             ·rw [if_neg c39] at H
              have c39b0 : (t261 == 0) = false := beq_eq_false_iff_ne.mpr c39
              have c39b1 : (t261 != 0) = true := bne_iff_ne.mpr c39
              by_cases c40 : x5_2.length < 140737488355328
              ·rw [if_pos c40] at H
               have LMc40 := Aside0.mk c40
               clear c40
               obtain ⟨y262, hy262⟩ : ∃ y_ : List Int, y_ = (x5_2 ++ [t260]) := ⟨_, rfl⟩
               replace H : (selvageref02_Unquote.l1 kj24 a0 y262 (wrap64 (x7_2 + t261))) = some (r1, r2, r3) := by first | (rw [hy262]; with_reducible exact H) | (have H2_ := (Option.bind_some _ _).symm.trans H; rw [hy262]; with_reducible exact H2_) | (have H2_ := (Option.bind_some _ _).symm.trans H; with_reducible exact H2_) | with_reducible exact H | (rw [hy262]; exact H) | exact H
               have Ny262 := Aside0.mk hy262
               clear hy262
               have H' := Aside0.mk H
               clear H
               have p34 : 0 ≤ (x7_2 : Int) := ofDec
               have q34 : x7_2 < (a0.size : Int) := ofDec
               have hx34 := bt_at a0 x7_2
               replace p34 := eq_true p34
               replace q34 := eq_true q34
               go_wp2_with (first | (go_at_call 65; (with_reducible refine (selvageref02_read.calls kj24 (a0.extract (x7_2 : Int).toNat a0.size) t260 t261 _ A38.out).mono ?_); rintro e w' ⟨rfl, ⟨nd, rfl⟩⟩; (try first | exact ⟨rfl, _, World.drewN_drewN _ _ _⟩ | exact ⟨rfl, _, Eq.trans (World.drewN_drewN _ _ _) (congrArg (World.drewN _) (Nat.add_assoc _ _ _))⟩)) | ((with_reducible refine gate_builtin (b := .append) (xs := #[.tmp 78, .tmp 80]) rfl ?_); at_builtin; refine Kd.R_append (Kd.int .u8) (w0 := w) w.heap.size rfl (.tmp 78) (.tmp 80) 44 5 (.int .u8 0) 1 rfl Tryd.underlying44 info5 rfl (by decide) (by omega) u5 x5_2 t260 [.int .u8 t260] (fun _ => True) (fun _ => False) rfl rfl ?aP (fun _ hk => hk.elim) ?aF ?aO ?aB ?aS ?aL ?_; (case aP => exact rfl); (case aB => exact belNow); (case aF => exact (fun _ _ => trivial)); (case aO => exact (kdUp HO_5.out)); (case aS => exact (below_size belNow)); (case aL => have := LMc40.out; omega); intro v263 w41 ho hb hg hat; rw [← Ny262.out] at ho; have n0_ := Aside0.mk (hb); have n1_ := Aside0.mk (ho); clear HB; clear HO_5; have HB := n0_; have HO264 := n1_; clear n0_ n1_; clear ho hb hg hat))
               repeat (go_quiet (first | (go_at_call 65; (with_reducible refine (selvageref02_read.calls kj24 (a0.extract (x7_2 : Int).toNat a0.size) t260 t261 _ A38.out).mono ?_); rintro e w' ⟨rfl, ⟨nd, rfl⟩⟩; (try first | exact ⟨rfl, _, World.drewN_drewN _ _ _⟩ | exact ⟨rfl, _, Eq.trans (World.drewN_drewN _ _ _) (congrArg (World.drewN _) (Nat.add_assoc _ _ _))⟩)) | ((with_reducible refine gate_builtin (b := .append) (xs := #[.tmp 78, .tmp 80]) rfl ?_); at_builtin; refine Kd.R_append (Kd.int .u8) (w0 := w) w.heap.size rfl (.tmp 78) (.tmp 80) 44 5 (.int .u8 0) 1 rfl Tryd.underlying44 info5 rfl (by decide) (by omega) u5 x5_2 t260 [.int .u8 t260] (fun _ => True) (fun _ => False) rfl rfl ?aP (fun _ hk => hk.elim) ?aF ?aO ?aB ?aS ?aL ?_; (case aP => exact rfl); (case aB => exact belNow); (case aF => exact (fun _ _ => trivial)); (case aO => exact (kdUp HO_5.out)); (case aS => exact (below_size belNow)); (case aL => have := LMc40.out; omega); intro v263 w41 ho hb hg hat; rw [← Ny262.out] at ho; have n0_ := Aside0.mk (hb); have n1_ := Aside0.mk (ho); clear HB; clear HO_5; have HB := n0_; have HO264 := n1_; clear n0_ n1_; clear ho hb hg hat)); try go_wp2_with (first | (go_at_call 65; (with_reducible refine (selvageref02_read.calls kj24 (a0.extract (x7_2 : Int).toNat a0.size) t260 t261 _ A38.out).mono ?_); rintro e w' ⟨rfl, ⟨nd, rfl⟩⟩; (try first | exact ⟨rfl, _, World.drewN_drewN _ _ _⟩ | exact ⟨rfl, _, Eq.trans (World.drewN_drewN _ _ _) (congrArg (World.drewN _) (Nat.add_assoc _ _ _))⟩)) | ((with_reducible refine gate_builtin (b := .append) (xs := #[.tmp 78, .tmp 80]) rfl ?_); at_builtin; refine Kd.R_append (Kd.int .u8) (w0 := w) w.heap.size rfl (.tmp 78) (.tmp 80) 44 5 (.int .u8 0) 1 rfl Tryd.underlying44 info5 rfl (by decide) (by omega) u5 x5_2 t260 [.int .u8 t260] (fun _ => True) (fun _ => False) rfl rfl ?aP (fun _ hk => hk.elim) ?aF ?aO ?aB ?aS ?aL ?_; (case aP => exact rfl); (case aB => exact belNow); (case aF => exact (fun _ _ => trivial)); (case aO => exact (kdUp HO_5.out)); (case aS => exact (below_size belNow)); (case aL => have := LMc40.out; omega); intro v263 w41 ho hb hg hat; rw [← Ny262.out] at ho; have n0_ := Aside0.mk (hb); have n1_ := Aside0.mk (ho); clear HB; clear HO_5; have HB := n0_; have HO264 := n1_; clear n0_ n1_; clear ho hb hg hat)))
               go_roundg kj24
               case measure => have := HJ1.out; have := HK2.out; have := HJ24.out; omega
               case rel => exact ⟨(y262), (wrap64 (x7_2 + t261)), eqNow, H', ⟨by have := HJ1.out; have := HK2.out; have := HJ24.out; omega⟩, ⟨by (with_reducible repeat (first | apply Kd.R_alloc | apply Kd.R_drewN | apply Kd.R_drew)); (first | exact HO264.out | exact Kd.R_mono HO264.out (fun k_ h_ h2_ => h_ (h2_.trans ((fun (A_ : Option Addr) (n_ m_ c_ : Nat) => (show (Value.slice A_ n_ c_).ownBlock = (Value.slice A_ m_ c_).ownBlock by cases A_ <;> rfl)) _ _ _ _))))⟩, ⟨belNow⟩⟩
              ·rw [if_neg c40] at H
               exact absurd H (by simp)
            ·rw [if_neg c37] at H
             exact absurd H (by simp)
           ·rw [if_neg c35] at H
            have c35b0 : ((bt a0 x7_2) == 92) = false := beq_eq_false_iff_ne.mpr c35
            have c35b1 : ((bt a0 x7_2) != 92) = true := bne_iff_ne.mpr c35
            by_cases c43 : x5_2.length < 140737488355328
            ·rw [if_pos c43] at H
             have LMc43 := Aside0.mk c43
             clear c43
             obtain ⟨y265, hy265⟩ : ∃ y_ : List Int, y_ = (x5_2 ++ [bt a0 x7_2]) := ⟨_, rfl⟩
             replace H : (selvageref02_Unquote.l1 kj24 a0 y265 (wrap64 (x7_2 + 1))) = some (r1, r2, r3) := by first | (rw [hy265]; with_reducible exact H) | (have H2_ := (Option.bind_some _ _).symm.trans H; rw [hy265]; with_reducible exact H2_) | (have H2_ := (Option.bind_some _ _).symm.trans H; with_reducible exact H2_) | with_reducible exact H | (rw [hy265]; exact H) | exact H
             have Ny265 := Aside0.mk hy265
             clear hy265
             have H' := Aside0.mk H
             clear H
             have p34 : 0 ≤ (x7_2 : Int) := ofDec
             have q34 : x7_2 < (a0.size : Int) := ofDec
             have hx34 := bt_at a0 x7_2
             replace p34 := eq_true p34
             replace q34 := eq_true q34
             have p42 : 0 ≤ (x7_2 : Int) := ofDec
             have q42 : x7_2 < (a0.size : Int) := ofDec
             have hx42 := bt_at a0 x7_2
             replace p42 := eq_true p42
             replace q42 := eq_true q42
             go_wp2_with (first | ((with_reducible refine gate_builtin (b := .append) (xs := #[.tmp 61, .tmp 65]) rfl ?_); at_builtin; refine Kd.R_append (Kd.int .u8) (w0 := w) w.heap.size rfl (.tmp 61) (.tmp 65) 44 5 (.int .u8 0) 1 rfl Tryd.underlying44 info5 rfl (by decide) (by omega) u5 x5_2 (bt a0 x7_2) [.int .u8 (bt a0 x7_2)] (fun _ => True) (fun _ => False) rfl rfl ?aP (fun _ hk => hk.elim) ?aF ?aO ?aB ?aS ?aL ?_; (case aP => exact rfl); (case aB => exact belNow); (case aF => exact (fun _ _ => trivial)); (case aO => exact (kdUp HO_5.out)); (case aS => exact (below_size belNow)); (case aL => have := LMc43.out; omega); intro v266 w44 ho hb hg hat; rw [← Ny265.out] at ho; have n0_ := Aside0.mk (hb); have n1_ := Aside0.mk (ho); clear HB; clear HO_5; have HB := n0_; have HO267 := n1_; clear n0_ n1_; clear ho hb hg hat))
             repeat (go_quiet (first | ((with_reducible refine gate_builtin (b := .append) (xs := #[.tmp 61, .tmp 65]) rfl ?_); at_builtin; refine Kd.R_append (Kd.int .u8) (w0 := w) w.heap.size rfl (.tmp 61) (.tmp 65) 44 5 (.int .u8 0) 1 rfl Tryd.underlying44 info5 rfl (by decide) (by omega) u5 x5_2 (bt a0 x7_2) [.int .u8 (bt a0 x7_2)] (fun _ => True) (fun _ => False) rfl rfl ?aP (fun _ hk => hk.elim) ?aF ?aO ?aB ?aS ?aL ?_; (case aP => exact rfl); (case aB => exact belNow); (case aF => exact (fun _ _ => trivial)); (case aO => exact (kdUp HO_5.out)); (case aS => exact (below_size belNow)); (case aL => have := LMc43.out; omega); intro v266 w44 ho hb hg hat; rw [← Ny265.out] at ho; have n0_ := Aside0.mk (hb); have n1_ := Aside0.mk (ho); clear HB; clear HO_5; have HB := n0_; have HO267 := n1_; clear n0_ n1_; clear ho hb hg hat)); try go_wp2_with (first | ((with_reducible refine gate_builtin (b := .append) (xs := #[.tmp 61, .tmp 65]) rfl ?_); at_builtin; refine Kd.R_append (Kd.int .u8) (w0 := w) w.heap.size rfl (.tmp 61) (.tmp 65) 44 5 (.int .u8 0) 1 rfl Tryd.underlying44 info5 rfl (by decide) (by omega) u5 x5_2 (bt a0 x7_2) [.int .u8 (bt a0 x7_2)] (fun _ => True) (fun _ => False) rfl rfl ?aP (fun _ hk => hk.elim) ?aF ?aO ?aB ?aS ?aL ?_; (case aP => exact rfl); (case aB => exact belNow); (case aF => exact (fun _ _ => trivial)); (case aO => exact (kdUp HO_5.out)); (case aS => exact (below_size belNow)); (case aL => have := LMc43.out; omega); intro v266 w44 ho hb hg hat; rw [← Ny265.out] at ho; have n0_ := Aside0.mk (hb); have n1_ := Aside0.mk (ho); clear HB; clear HO_5; have HB := n0_; have HO267 := n1_; clear n0_ n1_; clear ho hb hg hat)))
             go_roundg kj24
             case measure => have := HJ1.out; have := HK2.out; have := HJ24.out; omega
             case rel => exact ⟨(y265), (wrap64 (x7_2 + 1)), eqNow, H', ⟨by have := HJ1.out; have := HK2.out; have := HJ24.out; omega⟩, ⟨by (with_reducible repeat (first | apply Kd.R_alloc | apply Kd.R_drewN | apply Kd.R_drew)); (first | exact HO267.out | exact Kd.R_mono HO267.out (fun k_ h_ h2_ => h_ (h2_.trans ((fun (A_ : Option Addr) (n_ m_ c_ : Nat) => (show (Value.slice A_ n_ c_).ownBlock = (Value.slice A_ m_ c_).ownBlock by cases A_ <;> rfl)) _ _ _ _))))⟩, ⟨belNow⟩⟩
            ·rw [if_neg c43] at H
             exact absurd H (by simp)
          ·rw [if_neg c33] at H
           exact absurd H (by simp)
         ·rw [if_neg c32] at H
          exact absurd H (by simp)
        ·replace c31 := Bool.eq_false_iff.mpr c31
         subst c31
         have H1 : (if x7_2 ≥ (a0.size : Int) then (some ((⟨#[]⟩ : ByteArray), (⟨#[]⟩ : ByteArray), 20)) else (if 0 ≤ x7_2 then (if x7_2 < (a0.size : Int) then (if (bt a0 x7_2) = 10 then (some ((⟨#[]⟩ : ByteArray), (⟨#[]⟩ : ByteArray), 20)) else (if 0 ≤ (wrap64 (x7_2 + 1)) then (if (wrap64 (x7_2 + 1)) ≤ (a0.size : Int) then (some (strOfNums x5_2, a0.extract ((wrap64 (x7_2 + 1)) : Int).toNat a0.size, 0)) else (none)) else (none))) else (none)) else (none))) = some (r1, r2, r3) := by rw [if_neg (show ¬ (false = true) by decide)] at H; exact H
         clear H
         have H := H1
         clear H1
         by_cases c45 : x7_2 ≥ (a0.size : Int)
         ·rw [if_pos c45] at H
          have c45b0 : decide ((a0.size : Int) ≤ x7_2) = true := decide_eq_true c45
          clear c45
          simp only [Option.some.injEq, Prod.mk.injEq] at H
          obtain ⟨rfl, rfl, rfl⟩ := H
          go_wp2
          repeat (go_quiet (fail); try go_wp2)
          go_ret3
          exact ⟨eqEnd, belNow⟩
         ·rw [if_neg c45] at H
          have c45b0 : decide ((a0.size : Int) ≤ x7_2) = false := decide_eq_false c45
          clear c45
          by_cases c46 : 0 ≤ x7_2
          ·rw [if_pos c46] at H
           have c46b0 : decide (0 ≤ x7_2) = true := decide_eq_true c46
           clear c46
           by_cases c47 : x7_2 < (a0.size : Int)
           ·rw [if_pos c47] at H
            have c47b0 : decide (x7_2 < (a0.size : Int)) = true := decide_eq_true c47
            clear c47
            by_cases c49 : (bt a0 x7_2) = 10
            ·rw [if_pos c49] at H
             have c49b0 : ((bt a0 x7_2) == 10) = true := beq_iff_eq.mpr c49
             have c49b1 : ((bt a0 x7_2) != 10) = false := bne_eq_false_iff_eq.mpr c49
             clear c49
             simp only [Option.some.injEq, Prod.mk.injEq] at H
             obtain ⟨rfl, rfl, rfl⟩ := H
             have p48 : 0 ≤ (x7_2 : Int) := ofDec
             have q48 : x7_2 < (a0.size : Int) := ofDec
             have hx48 := bt_at a0 x7_2
             replace p48 := eq_true p48
             replace q48 := eq_true q48
             go_wp2
             repeat (go_quiet (fail); try go_wp2)
             go_ret3
             exact ⟨eqEnd, belNow⟩
            ·rw [if_neg c49] at H
             have c49b0 : ((bt a0 x7_2) == 10) = false := beq_eq_false_iff_ne.mpr c49
             have c49b1 : ((bt a0 x7_2) != 10) = true := bne_iff_ne.mpr c49
             obtain ⟨ji50, hji50⟩ : ∃ j_ : Int, (wrap64 (x7_2 + 1)) = j_ := ⟨_, rfl⟩
             replace H : (if 0 ≤ (ji50) then (if (ji50) ≤ (a0.size : Int) then (some (strOfNums x5_2, a0.extract ((ji50) : Int).toNat a0.size, 0)) else (none)) else (none)) = some (r1, r2, r3) := by first | (rw [hji50] at H; exact H) | (simp only [hji50] at H ⊢; exact H)
             have hji50w : (IntKind.i64.wrap (x7_2 + 1)) = ji50 := (i64_w _).trans hji50
             by_cases c51 : 0 ≤ (ji50)
             ·rw [if_pos c51] at H
              have c51b0 := eq_true c51
              have c51b1 : decide (0 ≤ (ji50)) = true := decide_eq_true c51
              clear c51
              by_cases c52 : (ji50) ≤ (a0.size : Int)
              ·rw [if_pos c52] at H
               have c52b0 := eq_true c52
               have c52b1 : decide ((ji50) ≤ (a0.size : Int)) = true := decide_eq_true c52
               clear c52
               simp only [Option.some.injEq, Prod.mk.injEq] at H
               obtain ⟨rfl, rfl, rfl⟩ := H
               have p48 : 0 ≤ (x7_2 : Int) := ofDec
               have q48 : x7_2 < (a0.size : Int) := ofDec
               have hx48 := bt_at a0 x7_2
               replace p48 := eq_true p48
               replace q48 := eq_true q48
               have hcv53 := own_string (P := Tryd.prog) Tryd.underlying44 Tryd.underlying5 Tryd.underlying9 (Kd.own_of_R HO_5.out)
               have hcq53 := fun n_ : Nat => own_string (P := Tryd.prog) Tryd.underlying44 Tryd.underlying5 Tryd.underlying9 (Kd.own_of_R (Kd.R_drewN HO_5.out n_))
               go_wp2
               repeat (go_quiet (fail); try go_wp2)
               go_ret3
               exact ⟨by first | rfl | (simp [errW_none, errW_some] <;> rfl) | (simp only [← hji50]; first | rfl | (simp [errW_none, errW_some] <;> rfl)) | (simp [*, errW_none, errW_some] <;> rfl) | (simp only [i64_w, i32_w, u8_w]; first | rfl | (simp [errW_none, errW_some] <;> rfl)) | (simp only [bne_nil, beq_nil]; first | rfl | (simp <;> rfl)), belNow⟩
              ·rw [if_neg c52] at H
               exact absurd H (by simp)
             ·rw [if_neg c51] at H
              exact absurd H (by simp)
           ·rw [if_neg c47] at H
            exact absurd H (by simp)
          ·rw [if_neg c46] at H
           exact absurd H (by simp)
end Go.Proofs.YtfempodohmhhlaaDoor.Pp
