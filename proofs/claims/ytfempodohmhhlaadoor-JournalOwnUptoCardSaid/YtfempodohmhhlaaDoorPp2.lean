-- Printed by this session's pp.py over the kit's printer, out of the translation. Lean checks it.
import Derived.Test.YtfempodohmhhlaaDoorESq
import Derived.Test.YtfempodohmhhlaaDoorPp0
namespace Go.Proofs.YtfempodohmhhlaaDoor.Pp
open Go.RowKit Go.Proofs.YtfempodohmhhlaaDoor.Ext Go.Proofs.YtfempodohmhhlaaDoorW.PrintWords Go.Proofs.YtfempodohmhhlaaDoorW.PrintLast Go.Proofs.YtfempodohmhhlaaDoorW.PrintMore
attribute [local go_sem] max2_int min2_int max_two min_two max_three min_three max_four min_four   -- for this text's walks alone
set_option linter.unusedVariables false
set_option linter.unusedSimpArgs false
def strings_ContainsAny.f (a0 : ByteArray) (a1 : ByteArray) : Option (Bool) := (strings_IndexAny.f a0 a1).bind fun t101 => (some (decide (t101 ≥ 0)))
set_option maxHeartbeats 8000000 in
set_option maxRecDepth 100000 in
theorem strings_ContainsAny.calls (a0 : ByteArray) (a1 : ByteArray) (r : Bool) (w : World) (h : strings_ContainsAny.f a0 a1 = some r) :
  Calls Tryd.prog 67 #[.string a0, .string a1] w fun e w' => e = .returned (.bool r) ∧ Below w.heap.size w w' := by
 have HB := Aside0.mk (Below.refl w.heap.size w)
 have H : ((strings_IndexAny.f a0 a1).bind fun t101 => (some (decide (t101 ≥ 0)))) = some r := h
 clear h
 replace H := Option.bind_eq_some_iff.mp H
 obtain ⟨t101, A30, H⟩ := H
 replace H : (some (decide (t101 ≥ 0))) = some r := H
 have A3 := Aside0.mk A30
 clear A30
 obtain rfl := Option.some.inj H
 go_enter Tryd.func67, Tryd.ntmps67
 go_wp2_with (first | ((with_reducible refine gate_callee (f := 62) rfl ?_); refine goesL_ (some 7) rfl rfl Tryd.func62 (by kernel_rfl) rfl #[.string a0, .string a1] rfl argsOk ?_; (with_reducible refine (strings_IndexAny.calls a0 a1 t101 _ A3.out).mono ?_); rintro e w4 ⟨rfl, hb⟩; refine ⟨_, rfl, ?_⟩; have n0_ := Aside0.mk (below_step belNow hb); clear HB; have HB := n0_; clear n0_; (try clear hb); (try clear hb2); (try clear hk); (try clear hi)))
 go_ret
 exact ⟨eqEnd, belNow⟩
def path_Name.f (a0 : ByteArray) : Option (Option Int) := if a0.toList = ([] : List UInt8) then (some (some 30)) else (if (a0.size : Int) > 255 then (some (some 30)) else (if a0.toList = ([46] : List UInt8) then (some (some 30)) else (if a0.toList = ([46, 46] : List UInt8) then (some (some 30)) else ((strings_ContainsAny.f a0 (⟨#[47, 0]⟩ : ByteArray)).bind fun t102 => (if t102 = true then (some (some 30)) else (some none))))))
set_option maxHeartbeats 8000000 in
set_option maxRecDepth 100000 in
theorem path_Name.calls (a0 : ByteArray) (r : Option Int) (w : World) (h : path_Name.f a0 = some r) :
  Calls Tryd.prog 55 #[.string a0] w fun e w' => e = .returned (errW r) ∧ Below w.heap.size w w' := by
 have hu24 := Tryd.underlying24
 have hu53 := Tryd.underlying53
 have HB := Aside0.mk (Below.refl w.heap.size w)
 have H : (if a0.toList = ([] : List UInt8) then (some (some 30)) else (if (a0.size : Int) > 255 then (some (some 30)) else (if a0.toList = ([46] : List UInt8) then (some (some 30)) else (if a0.toList = ([46, 46] : List UInt8) then (some (some 30)) else ((strings_ContainsAny.f a0 (⟨#[47, 0]⟩ : ByteArray)).bind fun t102 => (if t102 = true then (some (some 30)) else (some none))))))) = some r := h
 clear h
 by_cases c2 : a0.toList = ([] : List UInt8)
 ·rw [if_pos c2] at H
  have c2b0 : (a0.toList == ([] : List UInt8)) = true := beq_iff_eq.mpr c2
  have c2b1 : (a0.toList != ([] : List UInt8)) = false := bne_eq_false_iff_eq.mpr c2
  clear c2
  obtain rfl := Option.some.inj H
  go_enter Tryd.func55, Tryd.ntmps55
  go_wp2
  go_ret
  exact ⟨eqEnd, belNow⟩
 ·rw [if_neg c2] at H
  have c2b0 : (a0.toList == ([] : List UInt8)) = false := beq_eq_false_iff_ne.mpr c2
  have c2b1 : (a0.toList != ([] : List UInt8)) = true := bne_iff_ne.mpr c2
  by_cases c3 : (a0.size : Int) > 255
  ·rw [if_pos c3] at H
   have c3b0 : decide (255 < (a0.size : Int)) = true := decide_eq_true c3
   have c3b1 : decide (255 < a0.size) = true := decide_eq_true (by omega)
   clear c3
   obtain rfl := Option.some.inj H
   go_enter Tryd.func55, Tryd.ntmps55
   go_wp2
   go_ret
   exact ⟨eqEnd, belNow⟩
  ·rw [if_neg c3] at H
   have c3b0 : decide (255 < (a0.size : Int)) = false := decide_eq_false c3
   have c3b1 : decide (255 < a0.size) = false := decide_eq_false (by omega)
   clear c3
   by_cases c4 : a0.toList = ([46] : List UInt8)
   ·rw [if_pos c4] at H
    have c4b0 : (a0.toList == ([46] : List UInt8)) = true := beq_iff_eq.mpr c4
    have c4b1 : (a0.toList != ([46] : List UInt8)) = false := bne_eq_false_iff_eq.mpr c4
    clear c4
    obtain rfl := Option.some.inj H
    go_enter Tryd.func55, Tryd.ntmps55
    go_wp2
    go_ret
    exact ⟨eqEnd, belNow⟩
   ·rw [if_neg c4] at H
    have c4b0 : (a0.toList == ([46] : List UInt8)) = false := beq_eq_false_iff_ne.mpr c4
    have c4b1 : (a0.toList != ([46] : List UInt8)) = true := bne_iff_ne.mpr c4
    by_cases c5 : a0.toList = ([46, 46] : List UInt8)
    ·rw [if_pos c5] at H
     have c5b0 : (a0.toList == ([46, 46] : List UInt8)) = true := beq_iff_eq.mpr c5
     have c5b1 : (a0.toList != ([46, 46] : List UInt8)) = false := bne_eq_false_iff_eq.mpr c5
     clear c5
     obtain rfl := Option.some.inj H
     go_enter Tryd.func55, Tryd.ntmps55
     go_wp2
     go_ret
     exact ⟨eqEnd, belNow⟩
    ·rw [if_neg c5] at H
     have c5b0 : (a0.toList == ([46, 46] : List UInt8)) = false := beq_eq_false_iff_ne.mpr c5
     have c5b1 : (a0.toList != ([46, 46] : List UInt8)) = true := bne_iff_ne.mpr c5
     replace H := Option.bind_eq_some_iff.mp H
     obtain ⟨t102, A60, H⟩ := H
     replace H : (if t102 = true then (some (some 30)) else (some none)) = some r := H
     have A6 := Aside0.mk A60
     clear A60
     by_cases c7 : t102 = true
     ·subst c7
      have H1 : (some (some 30)) = some r := by rw [if_pos rfl] at H; exact H
      clear H
      have H := H1
      clear H1
      obtain rfl := Option.some.inj H
      go_enter Tryd.func55, Tryd.ntmps55
      go_wp2_with (first | (go_at_call 67; (with_reducible refine (strings_ContainsAny.calls a0 (⟨#[47, 0]⟩ : ByteArray) true _ A6.out).mono ?_); rintro e w8 ⟨rfl, hb⟩; have n0_ := Aside0.mk (below_step belNow hb); clear HB; have HB := n0_; clear n0_; (try clear hb); (try clear hb2); (try clear hk); (try clear hi)))
      go_ret
      exact ⟨eqEnd, belNow⟩
     ·replace c7 := Bool.eq_false_iff.mpr c7
      subst c7
      have H1 : (some none) = some r := by rw [if_neg (show ¬ (false = true) by decide)] at H; exact H
      clear H
      have H := H1
      clear H1
      obtain rfl := Option.some.inj H
      go_enter Tryd.func55, Tryd.ntmps55
      go_wp2_with (first | (go_at_call 67; (with_reducible refine (strings_ContainsAny.calls a0 (⟨#[47, 0]⟩ : ByteArray) false _ A6.out).mono ?_); rintro e w9 ⟨rfl, hb⟩; have n0_ := Aside0.mk (below_step belNow hb); clear HB; have HB := n0_; clear n0_; (try clear hb); (try clear hb2); (try clear hk); (try clear hi)))
      go_ret
      exact ⟨eqEnd, belNow⟩
def path_Parts.l0 : Nat → List ByteArray → List ByteArray → Int → Int → Option (List ByteArray × Option Int)
 | 0, _, _, _, _ => none
 | k + 1, x4, x15, x16, x17 => if x17 < x16 then (if 0 ≤ x17 then (if x17 < (x15.length : Int) then ((path_Name.f (rdOf ByteArray.empty x15 x17)).bind fun t107 => (if t107.isNone = true then (path_Parts.l0 k x4 x15 x16 (wrap64 (x17 + 1))) else (some (([] : List ByteArray), some 30)))) else (none)) else (none)) else (if (x4.length : Int) > 64 then (some (([] : List ByteArray), some 2)) else (some (x4, none)))
def path_Parts.f (k : Nat) (a0 : ByteArray) : Option (List ByteArray × Option Int) := if (a0.size : Int) > 4096 then (some (([] : List ByteArray), some 2)) else (if a0.toList = ([] : List UInt8) then (some (([] : List ByteArray), none)) else ((strings_Split.f a0 (⟨#[47]⟩ : ByteArray)).bind fun t103 => (path_Parts.l0 k t103 t103 (t103.length : Int) 0)))
theorem path_Parts.mono_l : ∀ k, (∀ y0 y1 y2 y3, LeO (path_Parts.l0 k y0 y1 y2 y3) (path_Parts.l0 (k + 1) y0 y1 y2 y3))
 | 0 => fun _ _ _ _ r h => by simp [path_Parts.l0] at h
 | k + 1 => by
  have ih0 := path_Parts.mono_l k
  ·intro y0 y1 y2 y3
   unfold path_Parts.l0
   repeat' first
   | (with_reducible exact ih0 _ _ _ _)
   | (with_reducible exact LeO.refl _)
   | (with_reducible exact LeO.none _)
   | (with_reducible refine LeO.ite ?_ ?_)
   | (with_reducible refine LeO.bind ?_ (fun _ => ?_))
   | exact ih0 _ _ _ _
   | exact LeO.none _
   | refine LeO.ite ?_ ?_
   | refine LeO.bind ?_ (fun _ => ?_)
theorem path_Parts.mono : ∀ a0 k, LeO (path_Parts.f k a0) (path_Parts.f (k + 1) a0) := by
 intro a0 k
 have ih0 := path_Parts.mono_l k
 unfold path_Parts.f
 repeat' first
   | (with_reducible exact ih0 _ _ _ _)
   | (with_reducible exact LeO.refl _)
   | (with_reducible exact LeO.none _)
   | (with_reducible refine LeO.ite ?_ ?_)
   | (with_reducible refine LeO.bind ?_ (fun _ => ?_))
   | exact ih0 _ _ _ _
   | exact LeO.none _
   | refine LeO.ite ?_ ?_
   | refine LeO.bind ?_ (fun _ => ?_)
set_option maxHeartbeats 8000000 in
set_option maxRecDepth 100000 in
theorem path_Parts.calls (k : Nat) (a0 : ByteArray) (r1 : List ByteArray) (r2 : Option Int) (w : World) (hGL : Glob w) (h : path_Parts.f k a0 = some (r1, r2)) :
  Calls Tryd.prog 40 #[.string a0] w fun e w' => ∃ v0_ : Value, e = .returned (.tuple #[v0_, errW r2]) ∧ Kd.R Kd.string 9 w' w.heap.size (fun _ => True) v0_ r1 ∧ Below w.heap.size w w' := by
 have hu24 := Tryd.underlying24
 have hu53 := Tryd.underlying53
 have HB := Aside0.mk (Below.refl w.heap.size w)
 have H : (if (a0.size : Int) > 4096 then (some (([] : List ByteArray), some 2)) else (if a0.toList = ([] : List UInt8) then (some (([] : List ByteArray), none)) else ((strings_Split.f a0 (⟨#[47]⟩ : ByteArray)).bind fun t103 => (path_Parts.l0 k t103 t103 (t103.length : Int) 0)))) = some (r1, r2) := h
 clear h
 by_cases c2 : (a0.size : Int) > 4096
 ·rw [if_pos c2] at H
  have c2b0 : decide (4096 < (a0.size : Int)) = true := decide_eq_true c2
  have c2b1 : decide (4096 < a0.size) = true := decide_eq_true (by omega)
  clear c2
  simp only [Option.some.injEq, Prod.mk.injEq] at H
  obtain ⟨rfl, rfl⟩ := H
  go_enter Tryd.func40, Tryd.ntmps40
  go_wp2
  go_ret2
  exact ⟨_, eqEnd, by first | exact Kd.R_nil _ _ _ _ _ | exact Kd.N_nil _ _ _ _ _ | exact Kd.V_nil _ _ _ _ _ | exact Kd.Q_nil _ _ _ _ _ | exact Kd.S_nil _ _ _ _ _, belNow⟩
 ·rw [if_neg c2] at H
  have c2b0 : decide (4096 < (a0.size : Int)) = false := decide_eq_false c2
  have c2b1 : decide (4096 < a0.size) = false := decide_eq_false (by omega)
  clear c2
  by_cases c3 : a0.toList = ([] : List UInt8)
  ·rw [if_pos c3] at H
   have c3b0 : (a0.toList == ([] : List UInt8)) = true := beq_iff_eq.mpr c3
   have c3b1 : (a0.toList != ([] : List UInt8)) = false := bne_eq_false_iff_eq.mpr c3
   clear c3
   simp only [Option.some.injEq, Prod.mk.injEq] at H
   obtain ⟨rfl, rfl⟩ := H
   go_enter Tryd.func40, Tryd.ntmps40
   go_wp2
   go_ret2
   exact ⟨_, eqEnd, by first | exact Kd.R_nil _ _ _ _ _ | exact Kd.N_nil _ _ _ _ _ | exact Kd.V_nil _ _ _ _ _ | exact Kd.Q_nil _ _ _ _ _ | exact Kd.S_nil _ _ _ _ _, belNow⟩
  ·rw [if_neg c3] at H
   have c3b0 : (a0.toList == ([] : List UInt8)) = false := beq_eq_false_iff_ne.mpr c3
   have c3b1 : (a0.toList != ([] : List UInt8)) = true := bne_iff_ne.mpr c3
   replace H := Option.bind_eq_some_iff.mp H
   obtain ⟨t103, A40, H⟩ := H
   replace H : (path_Parts.l0 k t103 t103 (t103.length : Int) 0) = some (r1, r2) := H
   have A4 := Aside0.mk A40
   clear A40
   have H' := Aside0.mk H
   clear H
   go_enter Tryd.func40, Tryd.ntmps40
   go_wp2_with (first | ((with_reducible refine gate_callee (f := 54) rfl ?_); refine goesL_ (some 14) rfl rfl Tryd.func54 (by kernel_rfl) rfl #[.string a0, .string (⟨#[47]⟩ : ByteArray)] rfl argsOk ?_; (with_reducible refine (strings_Split.calls a0 (⟨#[47]⟩ : ByteArray) t103 _ ?side1 A4.out).mono ?_); (case side1 => exact Glob.below hGL belNow); rintro e w5 ⟨v104, rfl, ho0, hb⟩; refine ⟨_, rfl, ?_⟩; have n0_ := Aside0.mk (Kd.R_lower ho0 (below_size belNow)); have n1_ := Aside0.mk (below_step belNow hb); clear HB; have HO105 := n0_; have HB := n1_; clear n0_ n1_; (try clear hb); (try clear hb2); (try clear hk); (try clear hi); (try clear ho0); obtain ⟨Ao6, co6, eo6⟩ := Kd.R_slice HO105.out; subst eo6))
   go_loopg [17] k (fun kq v17 w' => ∃ (x17_1 : Int), v17 = .int .i64 x17_1 ∧ Aside0 (path_Parts.l0 kq t103 t103 (t103.length : Int) x17_1 = some (r1, r2)) ∧ Aside0 (kq ≤ k) ∧ Aside0 (Kd.R Kd.string 9 w' w.heap.size (fun _ => True) (.slice Ao6 t103.length co6) t103) ∧ Aside0 (Kd.R Kd.string 9 w' w.heap.size (fun _ => True) (.slice Ao6 t103.length co6) t103) ∧ Aside0 (Below w.heap.size w w'))
   case atStart => exact ⟨(0), eqNow, H', ⟨Nat.le_refl _⟩, ⟨by (with_reducible repeat (first | apply Kd.R_alloc | apply Kd.R_drewN | apply Kd.R_drew)); (first | exact HO105.out | exact Kd.R_mono HO105.out (fun k_ h_ h2_ => h_ (h2_.trans ((fun (A_ : Option Addr) (n_ m_ c_ : Nat) => (show (Value.slice A_ n_ c_).ownBlock = (Value.slice A_ m_ c_).ownBlock by cases A_ <;> rfl)) _ _ _ _))))⟩, ⟨by (with_reducible repeat (first | apply Kd.R_alloc | apply Kd.R_drewN | apply Kd.R_drew)); (first | exact HO105.out | exact Kd.R_mono HO105.out (fun k_ h_ h2_ => h_ (h2_.trans ((fun (A_ : Option Addr) (n_ m_ c_ : Nat) => (show (Value.slice A_ n_ c_).ownBlock = (Value.slice A_ m_ c_).ownBlock by cases A_ <;> rfl)) _ _ _ _))))⟩, ⟨belNow⟩⟩
   case round =>
    clear H'
    try clear c2
    try clear c2b0
    try clear c2b1
    try clear p2
    try clear c3
    try clear c3b0
    try clear c3b1
    try clear c4
    try clear c5
    obtain ⟨x17_1, rfl, HA, HK1, HO_4, HO_15, HB⟩ := hrel
    cases gk with
    | zero => exact absurd HA.out (by simp [path_Parts.l0])
    | succ k1 =>
     have H := HA.out
     clear HA
     simp only [path_Parts.l0] at H
     by_cases c7 : x17_1 < (t103.length : Int)
     ·rw [if_pos c7] at H
      have c7b0 : decide (x17_1 < (t103.length : Int)) = true := decide_eq_true c7
      clear c7
      by_cases c8 : 0 ≤ x17_1
      ·rw [if_pos c8] at H
       have c8b0 : decide (0 ≤ x17_1) = true := decide_eq_true c8
       clear c8
       by_cases c9 : x17_1 < (t103.length : Int)
       ·rw [if_pos c9] at H
        have c9b0 : decide (x17_1 < (t103.length : Int)) = true := decide_eq_true c9
        clear c9
        replace H := Option.bind_eq_some_iff.mp H
        obtain ⟨t107, A100, H⟩ := H
        replace H : (if t107.isNone = true then (path_Parts.l0 k1 t103 t103 (t103.length : Int) (wrap64 (x17_1 + 1))) else (some (([] : List ByteArray), some 30))) = some (r1, r2) := H
        have A10 := Aside0.mk A100
        clear A100
        rcases t107 with _ | q108
        ·have H1 : (path_Parts.l0 k1 t103 t103 (t103.length : Int) (wrap64 (x17_1 + 1))) = some (r1, r2) := by rw [if_pos (show (none : Option Int).isNone = true by rfl)] at H; exact H
         clear H
         have H := H1
         clear H1
         try simp only [errW_none, errW_some]
         have H' := Aside0.mk H
         clear H
         have p106 : 0 ≤ (x17_1 : Int) := ofDec
         have q106 : x17_1 < (t103.length : Int) := ofDec
         obtain ⟨ad106, e106, hx106_0⟩ := Kd.at_string (Kd.R_reads' HO_15.out).2.2 x17_1 p106 q106
         cases e106
         replace p106 := eq_true p106
         replace q106 := eq_true q106
         go_wp2_with (first | ((with_reducible refine gate_callee (f := 55) rfl ?_); refine goesL_ (some 22) rfl rfl Tryd.func55 (by kernel_rfl) rfl #[.string (rdOf ByteArray.empty t103 x17_1)] rfl argsOk ?_; (with_reducible refine (path_Name.calls (rdOf ByteArray.empty t103 x17_1) none _ A10.out).mono ?_); rintro e w11 ⟨rfl, hb⟩; refine ⟨_, rfl, ?_⟩; have n0_ := Aside0.mk (Kd.R_below (kdUp HO_4.out) hb); have n1_ := Aside0.mk (Kd.R_below (kdUp HO_15.out) hb); have n2_ := Aside0.mk (below_step belNow hb); clear HO_4; clear HO_15; clear HB; have HO_4 := n0_; have HO_15 := n1_; have HB := n2_; clear n0_ n1_ n2_; (try clear hb); (try clear hb2); (try clear hk); (try clear hi); (try simp only [errW_none, errW_some])))
         go_roundg k1
         case measure => have := HK1.out; omega
         case rel => exact ⟨(wrap64 (x17_1 + 1)), eqNow, H', ⟨by have := HK1.out; omega⟩, ⟨by (with_reducible repeat (first | apply Kd.R_alloc | apply Kd.R_drewN | apply Kd.R_drew)); (first | exact HO_4.out | exact Kd.R_mono HO_4.out (fun k_ h_ h2_ => h_ (h2_.trans ((fun (A_ : Option Addr) (n_ m_ c_ : Nat) => (show (Value.slice A_ n_ c_).ownBlock = (Value.slice A_ m_ c_).ownBlock by cases A_ <;> rfl)) _ _ _ _))))⟩, ⟨by (with_reducible repeat (first | apply Kd.R_alloc | apply Kd.R_drewN | apply Kd.R_drew)); (first | exact HO_15.out | exact Kd.R_mono HO_15.out (fun k_ h_ h2_ => h_ (h2_.trans ((fun (A_ : Option Addr) (n_ m_ c_ : Nat) => (show (Value.slice A_ n_ c_).ownBlock = (Value.slice A_ m_ c_).ownBlock by cases A_ <;> rfl)) _ _ _ _))))⟩, ⟨belNow⟩⟩
        ·have H1 : (some (([] : List ByteArray), some 30)) = some (r1, r2) := by rw [if_neg (show ¬ (some q108).isNone = true by simp)] at H; exact H
         clear H
         have H := H1
         clear H1
         try simp only [errW_none, errW_some]
         simp only [Option.some.injEq, Prod.mk.injEq] at H
         obtain ⟨rfl, rfl⟩ := H
         have p106 : 0 ≤ (x17_1 : Int) := ofDec
         have q106 : x17_1 < (t103.length : Int) := ofDec
         obtain ⟨ad106, e106, hx106_0⟩ := Kd.at_string (Kd.R_reads' HO_15.out).2.2 x17_1 p106 q106
         cases e106
         replace p106 := eq_true p106
         replace q106 := eq_true q106
         go_wp2_with (first | ((with_reducible refine gate_callee (f := 55) rfl ?_); refine goesL_ (some 22) rfl rfl Tryd.func55 (by kernel_rfl) rfl #[.string (rdOf ByteArray.empty t103 x17_1)] rfl argsOk ?_; (with_reducible refine (path_Name.calls (rdOf ByteArray.empty t103 x17_1) (some q108) _ A10.out).mono ?_); rintro e w12 ⟨rfl, hb⟩; refine ⟨_, rfl, ?_⟩; have n0_ := Aside0.mk (Kd.R_below (kdUp HO_4.out) hb); have n1_ := Aside0.mk (Kd.R_below (kdUp HO_15.out) hb); have n2_ := Aside0.mk (below_step belNow hb); clear HO_4; clear HO_15; clear HB; have HO_4 := n0_; have HO_15 := n1_; have HB := n2_; clear n0_ n1_ n2_; (try clear hb); (try clear hb2); (try clear hk); (try clear hi); (try simp only [errW_none, errW_some])))
         go_ret2
         exact ⟨_, eqEnd, by first | exact Kd.R_nil _ _ _ _ _ | exact Kd.N_nil _ _ _ _ _ | exact Kd.V_nil _ _ _ _ _ | exact Kd.Q_nil _ _ _ _ _ | exact Kd.S_nil _ _ _ _ _, belNow⟩
       ·rw [if_neg c9] at H
        exact absurd H (by simp)
      ·rw [if_neg c8] at H
       exact absurd H (by simp)
     ·rw [if_neg c7] at H
      have c7b0 : decide (x17_1 < (t103.length : Int)) = false := decide_eq_false c7
      clear c7
      by_cases c13 : (t103.length : Int) > 64
      ·rw [if_pos c13] at H
       have c13b0 : decide (64 < (t103.length : Int)) = true := decide_eq_true c13
       have c13b1 : decide (64 < t103.length) = true := decide_eq_true (by omega)
       clear c13
       simp only [Option.some.injEq, Prod.mk.injEq] at H
       obtain ⟨rfl, rfl⟩ := H
       go_wp2
       go_ret2
       exact ⟨_, eqEnd, by first | exact Kd.R_nil _ _ _ _ _ | exact Kd.N_nil _ _ _ _ _ | exact Kd.V_nil _ _ _ _ _ | exact Kd.Q_nil _ _ _ _ _ | exact Kd.S_nil _ _ _ _ _, belNow⟩
      ·rw [if_neg c13] at H
       have c13b0 : decide (64 < (t103.length : Int)) = false := decide_eq_false c13
       have c13b1 : decide (64 < t103.length) = false := decide_eq_false (by omega)
       clear c13
       simp only [Option.some.injEq, Prod.mk.injEq] at H
       obtain ⟨rfl, rfl⟩ := H
       go_wp2
       go_ret2
       exact ⟨_, eqEnd, by (with_reducible repeat (first | apply Kd.R_alloc | apply Kd.R_drewN | apply Kd.R_drew)); exact HO_4.out, belNow⟩
def journal_named.f (k : Nat) (a0 : ByteArray) : Option (Bool) := (path_Parts.f k a0).bind fun bt109 => (if a0.toList = ([] : List UInt8) then (some false) else (if bt109.2.isNone = true then (some true) else (some false)))
theorem journal_named.mono : ∀ a0 k, LeO (journal_named.f k a0) (journal_named.f (k + 1) a0) := by
 intro a0 k
 unfold journal_named.f
 repeat' first
   | (with_reducible exact path_Parts.mono _ _)
   | (with_reducible exact LeO.refl _)
   | (with_reducible exact LeO.none _)
   | (with_reducible refine LeO.ite ?_ ?_)
   | (with_reducible refine LeO.bind ?_ (fun _ => ?_))
   | exact path_Parts.mono _ _
   | exact LeO.none _
   | refine LeO.ite ?_ ?_
   | refine LeO.bind ?_ (fun _ => ?_)
set_option maxHeartbeats 8000000 in
set_option maxRecDepth 100000 in
theorem journal_named.calls (k : Nat) (a0 : ByteArray) (r : Bool) (w : World) (hGL : Glob w) (h : journal_named.f k a0 = some r) :
  Calls Tryd.prog 22 #[.string a0] w fun e w' => e = .returned (.bool r) ∧ Below w.heap.size w w' := by
 have hu24 := Tryd.underlying24
 have hu53 := Tryd.underlying53
 have HB := Aside0.mk (Below.refl w.heap.size w)
 have H : ((path_Parts.f k a0).bind fun bt109 => (if a0.toList = ([] : List UInt8) then (some false) else (if bt109.2.isNone = true then (some true) else (some false)))) = some r := h
 clear h
 replace H := Option.bind_eq_some_iff.mp H
 obtain ⟨⟨t109, t110⟩, A20, H⟩ := H
 replace H : (if a0.toList = ([] : List UInt8) then (some false) else (if t110.isNone = true then (some true) else (some false))) = some r := H
 have A2 := Aside0.mk A20
 clear A20
 by_cases c3 : a0.toList = ([] : List UInt8)
 ·rw [if_pos c3] at H
  have c3b0 : (a0.toList == ([] : List UInt8)) = true := beq_iff_eq.mpr c3
  have c3b1 : (a0.toList != ([] : List UInt8)) = false := bne_eq_false_iff_eq.mpr c3
  clear c3
  obtain rfl := Option.some.inj H
  go_enter Tryd.func22, Tryd.ntmps22
  go_wp2_with (first | ((with_reducible refine gate_callee (f := 40) rfl ?_); refine goesL_ (some 7) rfl rfl Tryd.func40 (by kernel_rfl) rfl #[.string a0] rfl argsOk ?_; (with_reducible refine (path_Parts.calls k a0 t109 t110 _ ?side1 A2.out).mono ?_); (case side1 => exact Glob.below hGL belNow); rintro e w4 ⟨v111, rfl, ho0, hb⟩; refine ⟨_, rfl, ?_⟩; have n0_ := Aside0.mk (Kd.R_lower ho0 (below_size belNow)); have n1_ := Aside0.mk (below_step belNow hb); clear HB; have HO112 := n0_; have HB := n1_; clear n0_ n1_; (try clear hb); (try clear hb2); (try clear hk); (try clear hi); (try clear ho0); (try simp only [errW_none, errW_some])))
  go_ret
  exact ⟨eqEnd, belNow⟩
 ·rw [if_neg c3] at H
  have c3b0 : (a0.toList == ([] : List UInt8)) = false := beq_eq_false_iff_ne.mpr c3
  have c3b1 : (a0.toList != ([] : List UInt8)) = true := bne_iff_ne.mpr c3
  rcases t110 with _ | q113
  ·have H1 : (some true) = some r := by rw [if_pos (show (none : Option Int).isNone = true by rfl)] at H; exact H
   clear H
   have H := H1
   clear H1
   try simp only [errW_none, errW_some]
   obtain rfl := Option.some.inj H
   go_enter Tryd.func22, Tryd.ntmps22
   go_wp2_with (first | ((with_reducible refine gate_callee (f := 40) rfl ?_); refine goesL_ (some 7) rfl rfl Tryd.func40 (by kernel_rfl) rfl #[.string a0] rfl argsOk ?_; (with_reducible refine (path_Parts.calls k a0 t109 none _ ?side1 A2.out).mono ?_); (case side1 => exact Glob.below hGL belNow); rintro e w5 ⟨v111, rfl, ho0, hb⟩; refine ⟨_, rfl, ?_⟩; have n0_ := Aside0.mk (Kd.R_lower ho0 (below_size belNow)); have n1_ := Aside0.mk (below_step belNow hb); clear HB; have HO112 := n0_; have HB := n1_; clear n0_ n1_; (try clear hb); (try clear hb2); (try clear hk); (try clear hi); (try clear ho0); (try simp only [errW_none, errW_some])))
   go_ret
   exact ⟨eqEnd, belNow⟩
  ·have H1 : (some false) = some r := by rw [if_neg (show ¬ (some q113).isNone = true by simp)] at H; exact H
   clear H
   have H := H1
   clear H1
   try simp only [errW_none, errW_some]
   obtain rfl := Option.some.inj H
   go_enter Tryd.func22, Tryd.ntmps22
   go_wp2_with (first | ((with_reducible refine gate_callee (f := 40) rfl ?_); refine goesL_ (some 7) rfl rfl Tryd.func40 (by kernel_rfl) rfl #[.string a0] rfl argsOk ?_; (with_reducible refine (path_Parts.calls k a0 t109 (some q113) _ ?side1 A2.out).mono ?_); (case side1 => exact Glob.below hGL belNow); rintro e w6 ⟨v111, rfl, ho0, hb⟩; refine ⟨_, rfl, ?_⟩; have n0_ := Aside0.mk (Kd.R_lower ho0 (below_size belNow)); have n1_ := Aside0.mk (below_step belNow hb); clear HB; have HO112 := n0_; have HB := n1_; clear n0_ n1_; (try clear hb); (try clear hb2); (try clear hk); (try clear hi); (try clear ho0); (try simp only [errW_none, errW_some])))
   go_ret
   exact ⟨eqEnd, belNow⟩
def journal_Valid.j0 : Nat → Bool → Bool → Int → ByteArray → ByteArray → Option (Option Int)
 | 0, _, _, _, _, _ => none
 | k + 1, x3, x24, x115000, x115001, x115002 => if x24 = true then (if x3 = true then (if (x115002.toList = ([] : List UInt8)) then (some none) else (some (some 1))) else (some (some 1))) else (some (some 1))
def journal_Valid.f (k : Nat) (a0_0 : Int) (a0_1 : ByteArray) (a0_2 : ByteArray) : Option (Option Int) := (journal_named.f k a0_1).bind fun t115 => (if a0_0 = 1 then (if t115 = true then ((journal_named.f k a0_2).bind fun t116 => (if t116 = true then (if a0_2.toList = a0_1.toList then (some (some 1)) else (some none)) else (some (some 1)))) else (some (some 1))) else (if a0_0 = 2 then (journal_Valid.j0 k t115 (a0_0 == 2) a0_0 a0_1 a0_2) else (journal_Valid.j0 k t115 (a0_0 == 3) a0_0 a0_1 a0_2)))
theorem journal_Valid.mono_l : ∀ k, (∀ y0 y1 y2 y3 y4, LeO (journal_Valid.j0 k y0 y1 y2 y3 y4) (journal_Valid.j0 (k + 1) y0 y1 y2 y3 y4))
 | 0 => fun _ _ _ _ _ r h => by simp [journal_Valid.j0] at h
 | k + 1 => by
  have ih0 := journal_Valid.mono_l k
  ·intro y0 y1 y2 y3 y4
   unfold journal_Valid.j0
   repeat' first
   | (with_reducible exact ih0 _ _ _ _ _)
   | (with_reducible exact journal_named.mono _ _)
   | (with_reducible exact LeO.refl _)
   | (with_reducible exact LeO.none _)
   | (with_reducible refine LeO.ite ?_ ?_)
   | (with_reducible refine LeO.bind ?_ (fun _ => ?_))
   | exact ih0 _ _ _ _ _
   | exact journal_named.mono _ _
   | exact LeO.none _
   | refine LeO.ite ?_ ?_
   | refine LeO.bind ?_ (fun _ => ?_)
theorem journal_Valid.mono : ∀ a0 a1 a2 k, LeO (journal_Valid.f k a0 a1 a2) (journal_Valid.f (k + 1) a0 a1 a2) := by
 intro a0 a1 a2 k
 have ih0 := journal_Valid.mono_l k
 unfold journal_Valid.f
 repeat' first
   | (with_reducible exact ih0 _ _ _ _ _)
   | (with_reducible exact journal_named.mono _ _)
   | (with_reducible exact LeO.refl _)
   | (with_reducible exact LeO.none _)
   | (with_reducible refine LeO.ite ?_ ?_)
   | (with_reducible refine LeO.bind ?_ (fun _ => ?_))
   | exact ih0 _ _ _ _ _
   | exact journal_named.mono _ _
   | exact LeO.none _
   | refine LeO.ite ?_ ?_
   | refine LeO.bind ?_ (fun _ => ?_)
set_option maxHeartbeats 8000000 in
set_option maxRecDepth 100000 in
theorem journal_Valid.calls (k : Nat) (a0_0 : Int) (a0_1 : ByteArray) (a0_2 : ByteArray) (r : Option Int) (w : World) (hGL : Glob w) (h : journal_Valid.f k a0_0 a0_1 a0_2 = some r) :
  Calls Tryd.prog 10 #[.agg #[.int .i64 a0_0, .string a0_1, .string a0_2]] w fun e w' => e = .returned (errW r) ∧ Below w.heap.size w w' := by
 have hu32 := Tryd.underlying32
 have hu24 := Tryd.underlying24
 have hu53 := Tryd.underlying53
 have HB := Aside0.mk (Below.refl w.heap.size w)
 have H : ((journal_named.f k a0_1).bind fun t115 => (if a0_0 = 1 then (if t115 = true then ((journal_named.f k a0_2).bind fun t116 => (if t116 = true then (if a0_2.toList = a0_1.toList then (some (some 1)) else (some none)) else (some (some 1)))) else (some (some 1))) else (if a0_0 = 2 then (journal_Valid.j0 k t115 (a0_0 == 2) a0_0 a0_1 a0_2) else (journal_Valid.j0 k t115 (a0_0 == 3) a0_0 a0_1 a0_2)))) = some r := h
 clear h
 replace H := Option.bind_eq_some_iff.mp H
 obtain ⟨t115, A20, H⟩ := H
 replace H : (if a0_0 = 1 then (if t115 = true then ((journal_named.f k a0_2).bind fun t116 => (if t116 = true then (if a0_2.toList = a0_1.toList then (some (some 1)) else (some none)) else (some (some 1)))) else (some (some 1))) else (if a0_0 = 2 then (journal_Valid.j0 k t115 (a0_0 == 2) a0_0 a0_1 a0_2) else (journal_Valid.j0 k t115 (a0_0 == 3) a0_0 a0_1 a0_2))) = some r := H
 have A2 := Aside0.mk A20
 clear A20
 by_cases c3 : a0_0 = 1
 ·rw [if_pos c3] at H
  have c3b0 : (a0_0 == 1) = true := beq_iff_eq.mpr c3
  have c3b1 : (a0_0 != 1) = false := bne_eq_false_iff_eq.mpr c3
  clear c3
  by_cases c4 : t115 = true
  ·subst c4
   have H1 : ((journal_named.f k a0_2).bind fun t116 => (if t116 = true then (if a0_2.toList = a0_1.toList then (some (some 1)) else (some none)) else (some (some 1)))) = some r := by rw [if_pos rfl] at H; exact H
   clear H
   have H := H1
   clear H1
   replace H := Option.bind_eq_some_iff.mp H
   obtain ⟨t116, A50, H⟩ := H
   replace H : (if t116 = true then (if a0_2.toList = a0_1.toList then (some (some 1)) else (some none)) else (some (some 1))) = some r := H
   have A5 := Aside0.mk A50
   clear A50
   by_cases c6 : t116 = true
   ·subst c6
    have H1 : (if a0_2.toList = a0_1.toList then (some (some 1)) else (some none)) = some r := by rw [if_pos rfl] at H; exact H
    clear H
    have H := H1
    clear H1
    by_cases c7 : a0_2.toList = a0_1.toList
    ·rw [if_pos c7] at H
     have c7b0 : (a0_2.toList == a0_1.toList) = true := beq_iff_eq.mpr c7
     have c7b1 : (a0_2.toList != a0_1.toList) = false := bne_eq_false_iff_eq.mpr c7
     clear c7
     obtain rfl := Option.some.inj H
     go_enter Tryd.func10, Tryd.ntmps10
     go_wp2_with (first | ((with_reducible refine gate_dst (N := 1) rfl ?_); refine box_event ?hg (N := 1) ?hd (cs := #[.int .i64 a0_0, .string a0_1, .string a0_2]) (t := 32) ?hr ?_; (case hd => rfl); (case hg => rfl); (case hr => first | (go_simp; done) | (go_simp; rfl)); intro gb114 hg w8 hbox hb; have n0_ := Aside0.mk (below_step belNow hb); have n1_ := Aside0.mk (hbox); have n2_ := Aside0.mk ((by rw [hg]; exact (below_size belNow) : w.heap.size ≤ gb114)); have n3_ := Aside0.mk ((by rw [hg]; exact (below_size belNow) : w.heap.size ≤ gb114)); clear HB; have HB := n0_; have BK114 := n1_; have GW114 := n2_; have GE114 := n3_; clear n0_ n1_ n2_ n3_; clear hb hbox hg; have hcz9_0 : w8.cell? ⟨gb114, 0, none⟩ = some (.int .i64 a0_0) := (blk_cell BK114.out 0).trans rfl; have hcz9_1 : w8.cell? ⟨gb114, 1, none⟩ = some (.string a0_1) := (blk_cell BK114.out 1).trans rfl; have hcz9_2 : w8.cell? ⟨gb114, 2, none⟩ = some (.string a0_2) := (blk_cell BK114.out 2).trans rfl; have hfz9_0 := blk_frozen BK114.out 0; have hfz9_1 := blk_frozen BK114.out 1; have hfz9_2 := blk_frozen BK114.out 2) | ((with_reducible refine gate_callee (f := 22) rfl ?_); refine goesL_ (some 6) rfl rfl Tryd.func22 (by kernel_rfl) rfl #[.string a0_1] rfl argsOk ?_; (with_reducible refine (journal_named.calls k a0_1 true _ ?side1 A2.out).mono ?_); (case side1 => exact Glob.below hGL (belPut)); rintro e w10 ⟨rfl, hb⟩; refine ⟨_, rfl, ?_⟩; have n0_ := Aside0.mk (blk_below (g := gb114) (o := .cells #[.int .i64 a0_0, .string a0_1, .string a0_2] 32 (0, 0)) (bkUp BK114.out) hb); have n1_ := Aside0.mk (below_step (belPut) hb); clear BK114; clear HB; have BK114 := n0_; have HB := n1_; clear n0_ n1_; (try clear hb); (try clear hb2); (try clear hk); (try clear hi); have hcz11_0 : w10.cell? ⟨gb114, 0, none⟩ = some (.int .i64 a0_0) := (blk_cell BK114.out 0).trans rfl; have hcz11_1 : w10.cell? ⟨gb114, 1, none⟩ = some (.string a0_1) := (blk_cell BK114.out 1).trans rfl; have hcz11_2 : w10.cell? ⟨gb114, 2, none⟩ = some (.string a0_2) := (blk_cell BK114.out 2).trans rfl; have hfz11_0 := blk_frozen BK114.out 0; have hfz11_1 := blk_frozen BK114.out 1; have hfz11_2 := blk_frozen BK114.out 2) | (go_at_call 22; (with_reducible refine (journal_named.calls k a0_2 true _ ?side1 A5.out).mono ?_); (case side1 => exact Glob.below hGL (belPut)); rintro e w12 ⟨rfl, hb⟩; have n0_ := Aside0.mk (blk_below (g := gb114) (o := .cells #[.int .i64 a0_0, .string a0_1, .string a0_2] 32 (0, 0)) (bkUp BK114.out) hb); have n1_ := Aside0.mk (below_step (belPut) hb); clear BK114; clear HB; have BK114 := n0_; have HB := n1_; clear n0_ n1_; (try clear hb); (try clear hb2); (try clear hk); (try clear hi); have hcz13_0 : w12.cell? ⟨gb114, 0, none⟩ = some (.int .i64 a0_0) := (blk_cell BK114.out 0).trans rfl; have hcz13_1 : w12.cell? ⟨gb114, 1, none⟩ = some (.string a0_1) := (blk_cell BK114.out 1).trans rfl; have hcz13_2 : w12.cell? ⟨gb114, 2, none⟩ = some (.string a0_2) := (blk_cell BK114.out 2).trans rfl; have hfz13_0 := blk_frozen BK114.out 0; have hfz13_1 := blk_frozen BK114.out 1; have hfz13_2 := blk_frozen BK114.out 2))
     go_ret
     exact ⟨eqEnd, belPut⟩
    ·rw [if_neg c7] at H
     have c7b0 : (a0_2.toList == a0_1.toList) = false := beq_eq_false_iff_ne.mpr c7
     have c7b1 : (a0_2.toList != a0_1.toList) = true := bne_iff_ne.mpr c7
     obtain rfl := Option.some.inj H
     go_enter Tryd.func10, Tryd.ntmps10
     go_wp2_with (first | ((with_reducible refine gate_dst (N := 1) rfl ?_); refine box_event ?hg (N := 1) ?hd (cs := #[.int .i64 a0_0, .string a0_1, .string a0_2]) (t := 32) ?hr ?_; (case hd => rfl); (case hg => rfl); (case hr => first | (go_simp; done) | (go_simp; rfl)); intro gb114 hg w14 hbox hb; have n0_ := Aside0.mk (below_step belNow hb); have n1_ := Aside0.mk (hbox); have n2_ := Aside0.mk ((by rw [hg]; exact (below_size belNow) : w.heap.size ≤ gb114)); have n3_ := Aside0.mk ((by rw [hg]; exact (below_size belNow) : w.heap.size ≤ gb114)); clear HB; have HB := n0_; have BK114 := n1_; have GW114 := n2_; have GE114 := n3_; clear n0_ n1_ n2_ n3_; clear hb hbox hg; have hcz15_0 : w14.cell? ⟨gb114, 0, none⟩ = some (.int .i64 a0_0) := (blk_cell BK114.out 0).trans rfl; have hcz15_1 : w14.cell? ⟨gb114, 1, none⟩ = some (.string a0_1) := (blk_cell BK114.out 1).trans rfl; have hcz15_2 : w14.cell? ⟨gb114, 2, none⟩ = some (.string a0_2) := (blk_cell BK114.out 2).trans rfl; have hfz15_0 := blk_frozen BK114.out 0; have hfz15_1 := blk_frozen BK114.out 1; have hfz15_2 := blk_frozen BK114.out 2) | ((with_reducible refine gate_callee (f := 22) rfl ?_); refine goesL_ (some 6) rfl rfl Tryd.func22 (by kernel_rfl) rfl #[.string a0_1] rfl argsOk ?_; (with_reducible refine (journal_named.calls k a0_1 true _ ?side1 A2.out).mono ?_); (case side1 => exact Glob.below hGL (belPut)); rintro e w16 ⟨rfl, hb⟩; refine ⟨_, rfl, ?_⟩; have n0_ := Aside0.mk (blk_below (g := gb114) (o := .cells #[.int .i64 a0_0, .string a0_1, .string a0_2] 32 (0, 0)) (bkUp BK114.out) hb); have n1_ := Aside0.mk (below_step (belPut) hb); clear BK114; clear HB; have BK114 := n0_; have HB := n1_; clear n0_ n1_; (try clear hb); (try clear hb2); (try clear hk); (try clear hi); have hcz17_0 : w16.cell? ⟨gb114, 0, none⟩ = some (.int .i64 a0_0) := (blk_cell BK114.out 0).trans rfl; have hcz17_1 : w16.cell? ⟨gb114, 1, none⟩ = some (.string a0_1) := (blk_cell BK114.out 1).trans rfl; have hcz17_2 : w16.cell? ⟨gb114, 2, none⟩ = some (.string a0_2) := (blk_cell BK114.out 2).trans rfl; have hfz17_0 := blk_frozen BK114.out 0; have hfz17_1 := blk_frozen BK114.out 1; have hfz17_2 := blk_frozen BK114.out 2) | (go_at_call 22; (with_reducible refine (journal_named.calls k a0_2 true _ ?side1 A5.out).mono ?_); (case side1 => exact Glob.below hGL (belPut)); rintro e w18 ⟨rfl, hb⟩; have n0_ := Aside0.mk (blk_below (g := gb114) (o := .cells #[.int .i64 a0_0, .string a0_1, .string a0_2] 32 (0, 0)) (bkUp BK114.out) hb); have n1_ := Aside0.mk (below_step (belPut) hb); clear BK114; clear HB; have BK114 := n0_; have HB := n1_; clear n0_ n1_; (try clear hb); (try clear hb2); (try clear hk); (try clear hi); have hcz19_0 : w18.cell? ⟨gb114, 0, none⟩ = some (.int .i64 a0_0) := (blk_cell BK114.out 0).trans rfl; have hcz19_1 : w18.cell? ⟨gb114, 1, none⟩ = some (.string a0_1) := (blk_cell BK114.out 1).trans rfl; have hcz19_2 : w18.cell? ⟨gb114, 2, none⟩ = some (.string a0_2) := (blk_cell BK114.out 2).trans rfl; have hfz19_0 := blk_frozen BK114.out 0; have hfz19_1 := blk_frozen BK114.out 1; have hfz19_2 := blk_frozen BK114.out 2))
     go_ret
     exact ⟨eqEnd, belPut⟩
   ·replace c6 := Bool.eq_false_iff.mpr c6
    subst c6
    have H1 : (some (some 1)) = some r := by rw [if_neg (show ¬ (false = true) by decide)] at H; exact H
    clear H
    have H := H1
    clear H1
    obtain rfl := Option.some.inj H
    go_enter Tryd.func10, Tryd.ntmps10
    go_wp2_with (first | ((with_reducible refine gate_dst (N := 1) rfl ?_); refine box_event ?hg (N := 1) ?hd (cs := #[.int .i64 a0_0, .string a0_1, .string a0_2]) (t := 32) ?hr ?_; (case hd => rfl); (case hg => rfl); (case hr => first | (go_simp; done) | (go_simp; rfl)); intro gb114 hg w20 hbox hb; have n0_ := Aside0.mk (below_step belNow hb); have n1_ := Aside0.mk (hbox); have n2_ := Aside0.mk ((by rw [hg]; exact (below_size belNow) : w.heap.size ≤ gb114)); have n3_ := Aside0.mk ((by rw [hg]; exact (below_size belNow) : w.heap.size ≤ gb114)); clear HB; have HB := n0_; have BK114 := n1_; have GW114 := n2_; have GE114 := n3_; clear n0_ n1_ n2_ n3_; clear hb hbox hg; have hcz21_0 : w20.cell? ⟨gb114, 0, none⟩ = some (.int .i64 a0_0) := (blk_cell BK114.out 0).trans rfl; have hcz21_1 : w20.cell? ⟨gb114, 1, none⟩ = some (.string a0_1) := (blk_cell BK114.out 1).trans rfl; have hcz21_2 : w20.cell? ⟨gb114, 2, none⟩ = some (.string a0_2) := (blk_cell BK114.out 2).trans rfl; have hfz21_0 := blk_frozen BK114.out 0; have hfz21_1 := blk_frozen BK114.out 1; have hfz21_2 := blk_frozen BK114.out 2) | ((with_reducible refine gate_callee (f := 22) rfl ?_); refine goesL_ (some 6) rfl rfl Tryd.func22 (by kernel_rfl) rfl #[.string a0_1] rfl argsOk ?_; (with_reducible refine (journal_named.calls k a0_1 true _ ?side1 A2.out).mono ?_); (case side1 => exact Glob.below hGL (belPut)); rintro e w22 ⟨rfl, hb⟩; refine ⟨_, rfl, ?_⟩; have n0_ := Aside0.mk (blk_below (g := gb114) (o := .cells #[.int .i64 a0_0, .string a0_1, .string a0_2] 32 (0, 0)) (bkUp BK114.out) hb); have n1_ := Aside0.mk (below_step (belPut) hb); clear BK114; clear HB; have BK114 := n0_; have HB := n1_; clear n0_ n1_; (try clear hb); (try clear hb2); (try clear hk); (try clear hi); have hcz23_0 : w22.cell? ⟨gb114, 0, none⟩ = some (.int .i64 a0_0) := (blk_cell BK114.out 0).trans rfl; have hcz23_1 : w22.cell? ⟨gb114, 1, none⟩ = some (.string a0_1) := (blk_cell BK114.out 1).trans rfl; have hcz23_2 : w22.cell? ⟨gb114, 2, none⟩ = some (.string a0_2) := (blk_cell BK114.out 2).trans rfl; have hfz23_0 := blk_frozen BK114.out 0; have hfz23_1 := blk_frozen BK114.out 1; have hfz23_2 := blk_frozen BK114.out 2) | (go_at_call 22; (with_reducible refine (journal_named.calls k a0_2 false _ ?side1 A5.out).mono ?_); (case side1 => exact Glob.below hGL (belPut)); rintro e w24 ⟨rfl, hb⟩; have n0_ := Aside0.mk (blk_below (g := gb114) (o := .cells #[.int .i64 a0_0, .string a0_1, .string a0_2] 32 (0, 0)) (bkUp BK114.out) hb); have n1_ := Aside0.mk (below_step (belPut) hb); clear BK114; clear HB; have BK114 := n0_; have HB := n1_; clear n0_ n1_; (try clear hb); (try clear hb2); (try clear hk); (try clear hi)))
    go_ret
    exact ⟨eqEnd, belPut⟩
  ·replace c4 := Bool.eq_false_iff.mpr c4
   subst c4
   have H1 : (some (some 1)) = some r := by rw [if_neg (show ¬ (false = true) by decide)] at H; exact H
   clear H
   have H := H1
   clear H1
   obtain rfl := Option.some.inj H
   go_enter Tryd.func10, Tryd.ntmps10
   go_wp2_with (first | ((with_reducible refine gate_dst (N := 1) rfl ?_); refine box_event ?hg (N := 1) ?hd (cs := #[.int .i64 a0_0, .string a0_1, .string a0_2]) (t := 32) ?hr ?_; (case hd => rfl); (case hg => rfl); (case hr => first | (go_simp; done) | (go_simp; rfl)); intro gb114 hg w25 hbox hb; have n0_ := Aside0.mk (below_step belNow hb); have n1_ := Aside0.mk (hbox); have n2_ := Aside0.mk ((by rw [hg]; exact (below_size belNow) : w.heap.size ≤ gb114)); have n3_ := Aside0.mk ((by rw [hg]; exact (below_size belNow) : w.heap.size ≤ gb114)); clear HB; have HB := n0_; have BK114 := n1_; have GW114 := n2_; have GE114 := n3_; clear n0_ n1_ n2_ n3_; clear hb hbox hg; have hcz26_0 : w25.cell? ⟨gb114, 0, none⟩ = some (.int .i64 a0_0) := (blk_cell BK114.out 0).trans rfl; have hcz26_1 : w25.cell? ⟨gb114, 1, none⟩ = some (.string a0_1) := (blk_cell BK114.out 1).trans rfl; have hcz26_2 : w25.cell? ⟨gb114, 2, none⟩ = some (.string a0_2) := (blk_cell BK114.out 2).trans rfl; have hfz26_0 := blk_frozen BK114.out 0; have hfz26_1 := blk_frozen BK114.out 1; have hfz26_2 := blk_frozen BK114.out 2) | ((with_reducible refine gate_callee (f := 22) rfl ?_); refine goesL_ (some 6) rfl rfl Tryd.func22 (by kernel_rfl) rfl #[.string a0_1] rfl argsOk ?_; (with_reducible refine (journal_named.calls k a0_1 false _ ?side1 A2.out).mono ?_); (case side1 => exact Glob.below hGL (belPut)); rintro e w27 ⟨rfl, hb⟩; refine ⟨_, rfl, ?_⟩; have n0_ := Aside0.mk (blk_below (g := gb114) (o := .cells #[.int .i64 a0_0, .string a0_1, .string a0_2] 32 (0, 0)) (bkUp BK114.out) hb); have n1_ := Aside0.mk (below_step (belPut) hb); clear BK114; clear HB; have BK114 := n0_; have HB := n1_; clear n0_ n1_; (try clear hb); (try clear hb2); (try clear hk); (try clear hi); have hcz28_0 : w27.cell? ⟨gb114, 0, none⟩ = some (.int .i64 a0_0) := (blk_cell BK114.out 0).trans rfl; have hcz28_1 : w27.cell? ⟨gb114, 1, none⟩ = some (.string a0_1) := (blk_cell BK114.out 1).trans rfl; have hcz28_2 : w27.cell? ⟨gb114, 2, none⟩ = some (.string a0_2) := (blk_cell BK114.out 2).trans rfl; have hfz28_0 := blk_frozen BK114.out 0; have hfz28_1 := blk_frozen BK114.out 1; have hfz28_2 := blk_frozen BK114.out 2))
   go_ret
   exact ⟨eqEnd, belPut⟩
 ·rw [if_neg c3] at H
  have c3b0 : (a0_0 == 1) = false := beq_eq_false_iff_ne.mpr c3
  have c3b1 : (a0_0 != 1) = true := bne_iff_ne.mpr c3
  have HC29 := Aside0.mk H
  clear H
  go_enter Tryd.func10, Tryd.ntmps10
  go_upto_if 24 with (first | ((with_reducible refine gate_dst (N := 1) rfl ?_); refine box_event ?hg (N := 1) ?hd (cs := #[.int .i64 a0_0, .string a0_1, .string a0_2]) (t := 32) ?hr ?_; (case hd => rfl); (case hg => rfl); (case hr => first | (go_simp; done) | (go_simp; rfl)); intro gb114 hg w30 hbox hb; have n0_ := Aside0.mk (below_step belNow hb); have n1_ := Aside0.mk (hbox); have n2_ := Aside0.mk ((by rw [hg]; exact (below_size belNow) : w.heap.size ≤ gb114)); have n3_ := Aside0.mk ((by rw [hg]; exact (below_size belNow) : w.heap.size ≤ gb114)); clear HB; have HB := n0_; have BK114 := n1_; have GW114 := n2_; have GE114 := n3_; clear n0_ n1_ n2_ n3_; clear hb hbox hg; have hcz31_0 : w30.cell? ⟨gb114, 0, none⟩ = some (.int .i64 a0_0) := (blk_cell BK114.out 0).trans rfl; have hcz31_1 : w30.cell? ⟨gb114, 1, none⟩ = some (.string a0_1) := (blk_cell BK114.out 1).trans rfl; have hcz31_2 : w30.cell? ⟨gb114, 2, none⟩ = some (.string a0_2) := (blk_cell BK114.out 2).trans rfl; have hfz31_0 := blk_frozen BK114.out 0; have hfz31_1 := blk_frozen BK114.out 1; have hfz31_2 := blk_frozen BK114.out 2) | ((with_reducible refine gate_callee (f := 22) rfl ?_); refine goesL_ (some 6) rfl rfl Tryd.func22 (by kernel_rfl) rfl #[.string a0_1] rfl argsOk ?_; (with_reducible refine (journal_named.calls k a0_1 t115 _ ?side1 A2.out).mono ?_); (case side1 => exact Glob.below hGL (belPut)); rintro e w32 ⟨rfl, hb⟩; refine ⟨_, rfl, ?_⟩; have n0_ := Aside0.mk (blk_below (g := gb114) (o := .cells #[.int .i64 a0_0, .string a0_1, .string a0_2] 32 (0, 0)) (bkUp BK114.out) hb); have n1_ := Aside0.mk (below_step (belPut) hb); clear BK114; clear HB; have BK114 := n0_; have HB := n1_; clear n0_ n1_; (try clear hb); (try clear hb2); (try clear hk); (try clear hi); have hcz33_0 : w32.cell? ⟨gb114, 0, none⟩ = some (.int .i64 a0_0) := (blk_cell BK114.out 0).trans rfl; have hcz33_1 : w32.cell? ⟨gb114, 1, none⟩ = some (.string a0_1) := (blk_cell BK114.out 1).trans rfl; have hcz33_2 : w32.cell? ⟨gb114, 2, none⟩ = some (.string a0_2) := (blk_cell BK114.out 2).trans rfl; have hfz33_0 := blk_frozen BK114.out 0; have hfz33_1 := blk_frozen BK114.out 1; have hfz33_2 := blk_frozen BK114.out 2))
  (try simp only [Act.put, List.setIfInBounds_toArray, List.set_cons_zero, List.set_cons_succ])
  go_cut [24] (fun v24 wc => ∃ (kq : Nat) (x24_28 : Bool), v24 = .bool x24_28 ∧ Aside0 (journal_Valid.j0 kq t115 x24_28 a0_0 a0_1 a0_2 = some r) ∧ Aside0 (kq ≤ k) ∧ Aside0 (wc.heap[gb114]? = some (.cells #[.int .i64 a0_0, .string a0_1, .string a0_2] 32 (0, 0))) ∧ Aside0 (Below w.heap.size w wc))
  case first =>
   have H := HC29.out
   clear HC29
   by_cases c34 : a0_0 = 2
   ·rw [if_pos c34] at H
    have c34b0 : (a0_0 == 2) = true := beq_iff_eq.mpr c34
    have c34b1 : (a0_0 != 2) = false := bne_eq_false_iff_eq.mpr c34
    clear c34
    (first | rw [c34b0] | (simp only [i64_w, i32_w]; rw [c34b0]) | skip)
    have H' := Aside0.mk H
    clear H
    go_wp2
    go_meet
    case rel => exact ⟨_, ((a0_0 == 2)), eqNow, H', ⟨by first | omega | exact Nat.le_refl _⟩, ⟨by (with_reducible repeat (first | refine blk_drewN ?_ _ | refine blk_drew ?_ | refine blk_alloc ?_ _)); exact BK114.out⟩, ⟨belPut⟩⟩
   ·rw [if_neg c34] at H
    have c34b0 : (a0_0 == 2) = false := beq_eq_false_iff_ne.mpr c34
    have c34b1 : (a0_0 != 2) = true := bne_iff_ne.mpr c34
    (first | rw [c34b0] | (simp only [i64_w, i32_w]; rw [c34b0]) | skip)
    have H' := Aside0.mk H
    clear H
    go_wp2
    go_meet
    case rel => exact ⟨_, ((a0_0 == 3)), eqNow, H', ⟨by first | omega | exact Nat.le_refl _⟩, ⟨by (with_reducible repeat (first | refine blk_drewN ?_ _ | refine blk_drew ?_ | refine blk_alloc ?_ _)); exact BK114.out⟩, ⟨belPut⟩⟩
  case rest =>
   clear HC29
   try clear c1
   try clear c2
   try clear p2
   try clear c3
   try clear c3b0
   try clear c3b1
   try clear c4
   try clear c6
   try clear c7
   try clear c7b0
   try clear c7b1
   try clear c10
   try clear c22
   try clear c34
   try clear c34b0
   try clear c34b1
   try clear hcz11_0
   try clear hcz11_1
   try clear hcz11_2
   try clear hcz13_0
   try clear hcz13_1
   try clear hcz13_2
   try clear hcz15_0
   try clear hcz15_1
   try clear hcz15_2
   try clear hcz17_0
   try clear hcz17_1
   try clear hcz17_2
   try clear hcz19_0
   try clear hcz19_1
   try clear hcz19_2
   try clear hcz21_0
   try clear hcz21_1
   try clear hcz21_2
   try clear hcz23_0
   try clear hcz23_1
   try clear hcz23_2
   try clear hcz26_0
   try clear hcz26_1
   try clear hcz26_2
   try clear hcz28_0
   try clear hcz28_1
   try clear hcz28_2
   try clear hcz31_0
   try clear hcz31_1
   try clear hcz31_2
   try clear hcz33_0
   try clear hcz33_1
   try clear hcz33_2
   try clear hcz9_0
   try clear hcz9_1
   try clear hcz9_2
   try clear hfz11_0
   try clear hfz11_1
   try clear hfz11_2
   try clear hfz13_0
   try clear hfz13_1
   try clear hfz13_2
   try clear hfz15_0
   try clear hfz15_1
   try clear hfz15_2
   try clear hfz17_0
   try clear hfz17_1
   try clear hfz17_2
   try clear hfz19_0
   try clear hfz19_1
   try clear hfz19_2
   try clear hfz21_0
   try clear hfz21_1
   try clear hfz21_2
   try clear hfz23_0
   try clear hfz23_1
   try clear hfz23_2
   try clear hfz26_0
   try clear hfz26_1
   try clear hfz26_2
   try clear hfz28_0
   try clear hfz28_1
   try clear hfz28_2
   try clear hfz31_0
   try clear hfz31_1
   try clear hfz31_2
   try clear hfz33_0
   try clear hfz33_1
   try clear hfz33_2
   try clear hfz9_0
   try clear hfz9_1
   try clear hfz9_2
   obtain ⟨kq, x24_28, rfl, HA, HJ28, BK114, HB⟩ := hcut
   cases kq with
   | zero => exact absurd HA.out (by simp [journal_Valid.j0])
   | succ kj28 =>
    have H := HA.out
    clear HA
    simp only [journal_Valid.j0] at H
    by_cases c35 : x24_28 = true
    ·subst c35
     have H1 : (if t115 = true then (if (a0_2.toList = ([] : List UInt8)) then (some none) else (some (some 1))) else (some (some 1))) = some r := by rw [if_pos rfl] at H; exact H
     clear H
     have H := H1
     clear H1
     by_cases c36 : t115 = true
     ·subst c36
      have H1 : (if (a0_2.toList = ([] : List UInt8)) then (some none) else (some (some 1))) = some r := by rw [if_pos rfl] at H; exact H
      clear H
      have H := H1
      clear H1
      by_cases c37 : (a0_2.toList = ([] : List UInt8))
      ·rw [if_pos c37] at H
       have c37b0 : (a0_2.toList == ([] : List UInt8)) = true := beq_iff_eq.mpr c37
       have c37b1 : (a0_2.toList != ([] : List UInt8)) = false := bne_eq_false_iff_eq.mpr c37
       clear c37
       obtain rfl := Option.some.inj H
       have hcz38_0 : wc.cell? ⟨gb114, 0, none⟩ = some (.int .i64 a0_0) := (blk_cell BK114.out 0).trans rfl
       have hcz38_1 : wc.cell? ⟨gb114, 1, none⟩ = some (.string a0_1) := (blk_cell BK114.out 1).trans rfl
       have hcz38_2 : wc.cell? ⟨gb114, 2, none⟩ = some (.string a0_2) := (blk_cell BK114.out 2).trans rfl
       have hfz38_0 := blk_frozen BK114.out 0
       have hfz38_1 := blk_frozen BK114.out 1
       have hfz38_2 := blk_frozen BK114.out 2
       go_wp2
       go_ret
       exact ⟨eqEnd, belPut⟩
      ·rw [if_neg c37] at H
       have c37b0 : (a0_2.toList == ([] : List UInt8)) = false := beq_eq_false_iff_ne.mpr c37
       have c37b1 : (a0_2.toList != ([] : List UInt8)) = true := bne_iff_ne.mpr c37
       obtain rfl := Option.some.inj H
       have hcz39_0 : wc.cell? ⟨gb114, 0, none⟩ = some (.int .i64 a0_0) := (blk_cell BK114.out 0).trans rfl
       have hcz39_1 : wc.cell? ⟨gb114, 1, none⟩ = some (.string a0_1) := (blk_cell BK114.out 1).trans rfl
       have hcz39_2 : wc.cell? ⟨gb114, 2, none⟩ = some (.string a0_2) := (blk_cell BK114.out 2).trans rfl
       have hfz39_0 := blk_frozen BK114.out 0
       have hfz39_1 := blk_frozen BK114.out 1
       have hfz39_2 := blk_frozen BK114.out 2
       go_wp2
       go_ret
       exact ⟨eqEnd, belPut⟩
     ·replace c36 := Bool.eq_false_iff.mpr c36
      subst c36
      have H1 : (some (some 1)) = some r := by rw [if_neg (show ¬ (false = true) by decide)] at H; exact H
      clear H
      have H := H1
      clear H1
      obtain rfl := Option.some.inj H
      go_wp2
      go_ret
      exact ⟨eqEnd, belPut⟩
    ·replace c35 := Bool.eq_false_iff.mpr c35
     subst c35
     have H1 : (some (some 1)) = some r := by rw [if_neg (show ¬ (false = true) by decide)] at H; exact H
     clear H
     have H := H1
     clear H1
     obtain rfl := Option.some.inj H
     go_wp2
     go_ret
     exact ⟨eqEnd, belPut⟩
def journal_word.f (a0 : Int) : Option (ByteArray) := if a0 = 1 then (some (⟨#[114, 101, 110, 97, 109, 101, 32]⟩ : ByteArray)) else (if a0 = 2 then (some (⟨#[114, 101, 109, 111, 118, 101, 32]⟩ : ByteArray)) else (some (⟨#[112, 114, 117, 110, 101, 32]⟩ : ByteArray)))
set_option maxHeartbeats 8000000 in
set_option maxRecDepth 100000 in
theorem journal_word.calls (a0 : Int) (r : ByteArray) (w : World) (h : journal_word.f a0 = some r) :
  Calls Tryd.prog 17 #[.int .i64 a0] w fun e w' => e = .returned (.string r) ∧ Drawn0 w w' := by
 have H : (if a0 = 1 then (some (⟨#[114, 101, 110, 97, 109, 101, 32]⟩ : ByteArray)) else (if a0 = 2 then (some (⟨#[114, 101, 109, 111, 118, 101, 32]⟩ : ByteArray)) else (some (⟨#[112, 114, 117, 110, 101, 32]⟩ : ByteArray)))) = some r := h
 clear h
 by_cases c2 : a0 = 1
 ·rw [if_pos c2] at H
  have c2b0 : (a0 == 1) = true := beq_iff_eq.mpr c2
  have c2b1 : (a0 != 1) = false := bne_eq_false_iff_eq.mpr c2
  clear c2
  obtain rfl := Option.some.inj H
  go_enter Tryd.func17, Tryd.ntmps17
  go_wp2
  go_ret
  exact ⟨eqFin, drawnNow⟩
 ·rw [if_neg c2] at H
  have c2b0 : (a0 == 1) = false := beq_eq_false_iff_ne.mpr c2
  have c2b1 : (a0 != 1) = true := bne_iff_ne.mpr c2
  by_cases c3 : a0 = 2
  ·rw [if_pos c3] at H
   have c3b0 : (a0 == 2) = true := beq_iff_eq.mpr c3
   have c3b1 : (a0 != 2) = false := bne_eq_false_iff_eq.mpr c3
   clear c3
   obtain rfl := Option.some.inj H
   go_enter Tryd.func17, Tryd.ntmps17
   go_wp2
   go_ret
   exact ⟨eqFin, drawnNow⟩
  ·rw [if_neg c3] at H
   have c3b0 : (a0 == 2) = false := beq_eq_false_iff_ne.mpr c3
   have c3b1 : (a0 != 2) = true := bne_iff_ne.mpr c3
   obtain rfl := Option.some.inj H
   go_enter Tryd.func17, Tryd.ntmps17
   go_wp2
   go_ret
   exact ⟨eqFin, drawnNow⟩
def quote_Needs.l0 : Nat → ByteArray → Int → Int → Option (Bool)
 | 0, _, _, _ => none
 | k + 1, x0, x8, x9 => if x9 < x8 then (if 0 ≤ x9 then (if x9 < (x0.size : Int) then (if (bt x0 x9) < 33 then (some true) else (if (bt x0 x9) ≥ 127 then (some true) else (if (bt x0 x9) = 34 then (some true) else (if (bt x0 x9) = 92 then (some true) else (quote_Needs.l0 k x0 x8 (wrap64 (x9 + 1))))))) else (none)) else (none)) else (some false)
def quote_Needs.f (k : Nat) (a0 : ByteArray) : Option (Bool) := if a0.toList = ([] : List UInt8) then (some true) else (quote_Needs.l0 k a0 (a0.size : Int) 0)
theorem quote_Needs.mono_l : ∀ k, (∀ y0 y1 y2, LeO (quote_Needs.l0 k y0 y1 y2) (quote_Needs.l0 (k + 1) y0 y1 y2))
 | 0 => fun _ _ _ r h => by simp [quote_Needs.l0] at h
 | k + 1 => by
  have ih0 := quote_Needs.mono_l k
  ·intro y0 y1 y2
   unfold quote_Needs.l0
   repeat' first
   | (with_reducible exact ih0 _ _ _)
   | (with_reducible exact LeO.refl _)
   | (with_reducible exact LeO.none _)
   | (with_reducible refine LeO.ite ?_ ?_)
   | (with_reducible refine LeO.bind ?_ (fun _ => ?_))
   | exact ih0 _ _ _
   | exact LeO.none _
   | refine LeO.ite ?_ ?_
   | refine LeO.bind ?_ (fun _ => ?_)
theorem quote_Needs.mono : ∀ a0 k, LeO (quote_Needs.f k a0) (quote_Needs.f (k + 1) a0) := by
 intro a0 k
 have ih0 := quote_Needs.mono_l k
 unfold quote_Needs.f
 repeat' first
   | (with_reducible exact ih0 _ _ _)
   | (with_reducible exact LeO.refl _)
   | (with_reducible exact LeO.none _)
   | (with_reducible refine LeO.ite ?_ ?_)
   | (with_reducible refine LeO.bind ?_ (fun _ => ?_))
   | exact ih0 _ _ _
   | exact LeO.none _
   | refine LeO.ite ?_ ?_
   | refine LeO.bind ?_ (fun _ => ?_)
set_option maxHeartbeats 8000000 in
set_option maxRecDepth 100000 in
theorem quote_Needs.calls (k : Nat) (a0 : ByteArray) (r : Bool) (w : World) (h : quote_Needs.f k a0 = some r) :
  Calls Tryd.prog 31 #[.string a0] w fun e w' => e = .returned (.bool r) ∧ Drawn0 w w' := by
 have H : (if a0.toList = ([] : List UInt8) then (some true) else (quote_Needs.l0 k a0 (a0.size : Int) 0)) = some r := h
 clear h
 by_cases c2 : a0.toList = ([] : List UInt8)
 ·rw [if_pos c2] at H
  have c2b0 : (a0.toList == ([] : List UInt8)) = true := beq_iff_eq.mpr c2
  have c2b1 : (a0.toList != ([] : List UInt8)) = false := bne_eq_false_iff_eq.mpr c2
  clear c2
  obtain rfl := Option.some.inj H
  go_enter Tryd.func31, Tryd.ntmps31
  go_wp2
  go_ret
  exact ⟨eqFin, drawnNow⟩
 ·rw [if_neg c2] at H
  have c2b0 : (a0.toList == ([] : List UInt8)) = false := beq_eq_false_iff_ne.mpr c2
  have c2b1 : (a0.toList != ([] : List UInt8)) = true := bne_iff_ne.mpr c2
  have H' := Aside0.mk H
  clear H
  go_enter Tryd.func31, Tryd.ntmps31
  go_wp2
  go_loopg [9] k (fun kq v9 w' => ∃ (x9_1 : Int), v9 = .int .i64 x9_1 ∧ Aside0 (quote_Needs.l0 kq a0 (a0.size : Int) x9_1 = some r) ∧ Aside0 (kq ≤ k) ∧ Drawn0 w w')
  case atStart => exact ⟨(0), eqNow, H', ⟨Nat.le_refl _⟩, drawnNow⟩
  case round =>
   clear H'
   try clear c2
   try clear c2b0
   try clear c2b1
   try clear p2
   obtain ⟨x9_1, rfl, HA, HK1, ⟨m1, rfl⟩⟩ := hrel
   cases gk with
   | zero => exact absurd HA.out (by simp [quote_Needs.l0])
   | succ k1 =>
    have H := HA.out
    clear HA
    simp only [quote_Needs.l0] at H
    by_cases c3 : x9_1 < (a0.size : Int)
    ·rw [if_pos c3] at H
     have c3b0 : decide (x9_1 < (a0.size : Int)) = true := decide_eq_true c3
     clear c3
     by_cases c4 : 0 ≤ x9_1
     ·rw [if_pos c4] at H
      have c4b0 : decide (0 ≤ x9_1) = true := decide_eq_true c4
      clear c4
      by_cases c5 : x9_1 < (a0.size : Int)
      ·rw [if_pos c5] at H
       have c5b0 : decide (x9_1 < (a0.size : Int)) = true := decide_eq_true c5
       clear c5
       by_cases c7 : (bt a0 x9_1) < 33
       ·rw [if_pos c7] at H
        have c7b0 : decide ((bt a0 x9_1) < 33) = true := decide_eq_true c7
        clear c7
        obtain rfl := Option.some.inj H
        have p6 : 0 ≤ (x9_1 : Int) := ofDec
        have q6 : x9_1 < (a0.size : Int) := ofDec
        have hx6 := bt_at a0 x9_1
        replace p6 := eq_true p6
        replace q6 := eq_true q6
        go_wp2
        go_ret
        exact ⟨eqFin, drawnNow⟩
       ·rw [if_neg c7] at H
        have c7b0 : decide ((bt a0 x9_1) < 33) = false := decide_eq_false c7
        clear c7
        by_cases c8 : (bt a0 x9_1) ≥ 127
        ·rw [if_pos c8] at H
         have c8b0 : decide (127 ≤ (bt a0 x9_1)) = true := decide_eq_true c8
         clear c8
         obtain rfl := Option.some.inj H
         have p6 : 0 ≤ (x9_1 : Int) := ofDec
         have q6 : x9_1 < (a0.size : Int) := ofDec
         have hx6 := bt_at a0 x9_1
         replace p6 := eq_true p6
         replace q6 := eq_true q6
         go_wp2
         go_ret
         exact ⟨eqFin, drawnNow⟩
        ·rw [if_neg c8] at H
         have c8b0 : decide (127 ≤ (bt a0 x9_1)) = false := decide_eq_false c8
         clear c8
         by_cases c9 : (bt a0 x9_1) = 34
         ·rw [if_pos c9] at H
          have c9b0 : ((bt a0 x9_1) == 34) = true := beq_iff_eq.mpr c9
          have c9b1 : ((bt a0 x9_1) != 34) = false := bne_eq_false_iff_eq.mpr c9
          clear c9
          obtain rfl := Option.some.inj H
          have p6 : 0 ≤ (x9_1 : Int) := ofDec
          have q6 : x9_1 < (a0.size : Int) := ofDec
          have hx6 := bt_at a0 x9_1
          replace p6 := eq_true p6
          replace q6 := eq_true q6
          go_wp2
          go_ret
          exact ⟨eqFin, drawnNow⟩
         ·rw [if_neg c9] at H
          have c9b0 : ((bt a0 x9_1) == 34) = false := beq_eq_false_iff_ne.mpr c9
          have c9b1 : ((bt a0 x9_1) != 34) = true := bne_iff_ne.mpr c9
          by_cases c10 : (bt a0 x9_1) = 92
          ·rw [if_pos c10] at H
           have c10b0 : ((bt a0 x9_1) == 92) = true := beq_iff_eq.mpr c10
           have c10b1 : ((bt a0 x9_1) != 92) = false := bne_eq_false_iff_eq.mpr c10
           clear c10
           obtain rfl := Option.some.inj H
           have p6 : 0 ≤ (x9_1 : Int) := ofDec
           have q6 : x9_1 < (a0.size : Int) := ofDec
           have hx6 := bt_at a0 x9_1
           replace p6 := eq_true p6
           replace q6 := eq_true q6
           go_wp2
           go_ret
           exact ⟨eqFin, drawnNow⟩
          ·rw [if_neg c10] at H
           have c10b0 : ((bt a0 x9_1) == 92) = false := beq_eq_false_iff_ne.mpr c10
           have c10b1 : ((bt a0 x9_1) != 92) = true := bne_iff_ne.mpr c10
           have H' := Aside0.mk H
           clear H
           have p6 : 0 ≤ (x9_1 : Int) := ofDec
           have q6 : x9_1 < (a0.size : Int) := ofDec
           have hx6 := bt_at a0 x9_1
           replace p6 := eq_true p6
           replace q6 := eq_true q6
           go_wp2
           go_roundg k1
           case measure => have := HK1.out; omega
           case rel => exact ⟨(wrap64 (x9_1 + 1)), eqNow, H', ⟨by have := HK1.out; omega⟩, drawnNow⟩
      ·rw [if_neg c5] at H
       exact absurd H (by simp)
     ·rw [if_neg c4] at H
      exact absurd H (by simp)
    ·rw [if_neg c3] at H
     have c3b0 : decide (x9_1 < (a0.size : Int)) = false := decide_eq_false c3
     clear c3
     obtain rfl := Option.some.inj H
     go_wp2
     go_ret
     exact ⟨eqFin, drawnNow⟩
end Go.Proofs.YtfempodohmhhlaaDoor.Pp
