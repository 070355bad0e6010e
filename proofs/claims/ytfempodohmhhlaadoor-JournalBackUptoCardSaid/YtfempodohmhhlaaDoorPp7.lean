-- Printed by this session's pp.py over the kit's printer, out of the translation. Lean checks it.
import Derived.Test.YtfempodohmhhlaaDoorESq
import Derived.Test.YtfempodohmhhlaaDoorPp0
import Derived.Test.YtfempodohmhhlaaDoorPp6
namespace Go.Proofs.YtfempodohmhhlaaDoor.Pp
open Go.RowKit Go.Proofs.YtfempodohmhhlaaDoor.Ext Go.Proofs.YtfempodohmhhlaaDoorW.PrintWords Go.Proofs.YtfempodohmhhlaaDoorW.PrintLast Go.Proofs.YtfempodohmhhlaaDoorW.PrintMore
attribute [local go_sem] max2_int min2_int max_two min_two max_three min_three max_four min_four   -- for this text's walks alone
set_option linter.unusedVariables false
set_option linter.unusedSimpArgs false
def quote_Unquote.l0 : Nat → ByteArray → List Int → Int → Option (ByteArray × ByteArray × Option Int)
 | 0, _, _, _ => none
 | k + 1, x0, x6, x7 => if x7 < (x0.size : Int) then (if 0 ≤ x7 then (if (bt x0 x7) = 34 then (if 0 ≤ (wrap64 (x7 + 1)) then (if (wrap64 (x7 + 1)) ≤ (x0.size : Int) then (some (strOfNums x6, x0.extract ((wrap64 (x7 + 1)) : Int).toNat x0.size, none)) else (none)) else (none)) else (if (bt x0 x7) = 10 then (some ((⟨#[]⟩ : ByteArray), (⟨#[]⟩ : ByteArray), some 20)) else (if (bt x0 x7) = 92 then (if 0 ≤ (wrap64 (x7 + 1)) then (if (wrap64 (x7 + 1)) ≤ (x0.size : Int) then (if (x0.extract ((wrap64 (x7 + 1)) : Int).toNat x0.size).toList = ([] : List UInt8) then (some ((⟨#[]⟩ : ByteArray), (⟨#[]⟩ : ByteArray), some 20)) else (if 0 < ((x0.extract ((wrap64 (x7 + 1)) : Int).toNat x0.size).size : Int) then ((quote_meant.f k (bt (x0.extract ((wrap64 (x7 + 1)) : Int).toNat x0.size) 0)).bind fun bt171 => (if bt171.2 = true then (if x6.length < 140737488355328 then (quote_Unquote.l0 k x0 (x6 ++ [bt171.1]) (wrap64 (x7 + 2))) else (none)) else ((quote_octal.f k (x0.extract ((wrap64 (x7 + 1)) : Int).toNat x0.size)).bind fun bt176 => (if bt176.2 = true then (if x6.length < 140737488355328 then (quote_Unquote.l0 k x0 (x6 ++ [bt176.1]) (wrap64 (x7 + 4))) else (none)) else (some ((⟨#[]⟩ : ByteArray), (⟨#[]⟩ : ByteArray), some 20)))))) else (none))) else (none)) else (none)) else (if x6.length < 140737488355328 then (quote_Unquote.l0 k x0 (x6 ++ [bt x0 x7]) (wrap64 (x7 + 1))) else (none))))) else (none)) else (some ((⟨#[]⟩ : ByteArray), (⟨#[]⟩ : ByteArray), some 20))
def quote_Unquote.f (k : Nat) (a0 : ByteArray) : Option (ByteArray × ByteArray × Option Int) := (strings_HasPrefix.f a0 (⟨#[34]⟩ : ByteArray)).bind fun t166 => (if t166 = true then (quote_Unquote.l0 k a0 ([] : List Int) 1) else ((strings_IndexAny.f a0 (⟨#[9, 10]⟩ : ByteArray)).bind fun t167 => (if t167 < 0 then (if 0 ≤ (a0.size : Int) then (if (a0.size : Int) ≤ (a0.size : Int) then (some (a0.extract 0 a0.size, a0.extract a0.size a0.size, none)) else (none)) else (none)) else (if 0 ≤ t167 then (if t167 ≤ (a0.size : Int) then (some (a0.extract 0 (t167 : Int).toNat, a0.extract (t167 : Int).toNat a0.size, none)) else (none)) else (none)))))
theorem quote_Unquote.mono_l : ∀ k, (∀ y0 y1 y2, LeO (quote_Unquote.l0 k y0 y1 y2) (quote_Unquote.l0 (k + 1) y0 y1 y2))
 | 0 => fun _ _ _ r h => by simp [quote_Unquote.l0] at h
 | k + 1 => by
  have ih0 := quote_Unquote.mono_l k
  ·intro y0 y1 y2
   unfold quote_Unquote.l0
   repeat' first
   | (with_reducible exact ih0 _ _ _)
   | (with_reducible exact quote_meant.mono _ _)
   | (with_reducible exact quote_octal.mono _ _)
   | (with_reducible exact LeO.refl _)
   | (with_reducible exact LeO.none _)
   | (with_reducible refine LeO.ite ?_ ?_)
   | (with_reducible refine LeO.bind ?_ (fun _ => ?_))
   | exact ih0 _ _ _
   | exact quote_meant.mono _ _
   | exact quote_octal.mono _ _
   | exact LeO.none _
   | refine LeO.ite ?_ ?_
   | refine LeO.bind ?_ (fun _ => ?_)
theorem quote_Unquote.mono : ∀ a0 k, LeO (quote_Unquote.f k a0) (quote_Unquote.f (k + 1) a0) := by
 intro a0 k
 have ih0 := quote_Unquote.mono_l k
 unfold quote_Unquote.f
 repeat' first
   | (with_reducible exact ih0 _ _ _)
   | (with_reducible exact quote_meant.mono _ _)
   | (with_reducible exact quote_octal.mono _ _)
   | (with_reducible exact LeO.refl _)
   | (with_reducible exact LeO.none _)
   | (with_reducible refine LeO.ite ?_ ?_)
   | (with_reducible refine LeO.bind ?_ (fun _ => ?_))
   | exact ih0 _ _ _
   | exact quote_meant.mono _ _
   | exact quote_octal.mono _ _
   | exact LeO.none _
   | refine LeO.ite ?_ ?_
   | refine LeO.bind ?_ (fun _ => ?_)
set_option maxHeartbeats 8000000 in
set_option maxRecDepth 100000 in
theorem quote_Unquote.calls (k : Nat) (a0 : ByteArray) (r1 : ByteArray) (r2 : ByteArray) (r3 : Option Int) (w : World) (h : quote_Unquote.f k a0 = some (r1, r2, r3)) :
  Calls Tryd.prog 45 #[.string a0] w fun e w' => e = .returned (.tuple #[.string r1, .string r2, errW r3]) ∧ Below w.heap.size w w' := by
 have hu24 := Tryd.underlying24
 have hu53 := Tryd.underlying53
 have HB := Aside0.mk (Below.refl w.heap.size w)
 have H : ((strings_HasPrefix.f a0 (⟨#[34]⟩ : ByteArray)).bind fun t166 => (if t166 = true then (quote_Unquote.l0 k a0 ([] : List Int) 1) else ((strings_IndexAny.f a0 (⟨#[9, 10]⟩ : ByteArray)).bind fun t167 => (if t167 < 0 then (if 0 ≤ (a0.size : Int) then (if (a0.size : Int) ≤ (a0.size : Int) then (some (a0.extract 0 a0.size, a0.extract a0.size a0.size, none)) else (none)) else (none)) else (if 0 ≤ t167 then (if t167 ≤ (a0.size : Int) then (some (a0.extract 0 (t167 : Int).toNat, a0.extract (t167 : Int).toNat a0.size, none)) else (none)) else (none)))))) = some (r1, r2, r3) := h
 clear h
 replace H := Option.bind_eq_some_iff.mp H
 obtain ⟨t166, A20, H⟩ := H
 replace H : (if t166 = true then (quote_Unquote.l0 k a0 ([] : List Int) 1) else ((strings_IndexAny.f a0 (⟨#[9, 10]⟩ : ByteArray)).bind fun t167 => (if t167 < 0 then (if 0 ≤ (a0.size : Int) then (if (a0.size : Int) ≤ (a0.size : Int) then (some (a0.extract 0 a0.size, a0.extract a0.size a0.size, none)) else (none)) else (none)) else (if 0 ≤ t167 then (if t167 ≤ (a0.size : Int) then (some (a0.extract 0 (t167 : Int).toNat, a0.extract (t167 : Int).toNat a0.size, none)) else (none)) else (none))))) = some (r1, r2, r3) := H
 have A2 := Aside0.mk A20
 clear A20
 by_cases c3 : t166 = true
 ·subst c3
  have H1 : (quote_Unquote.l0 k a0 ([] : List Int) 1) = some (r1, r2, r3) := by rw [if_pos rfl] at H; exact H
  clear H
  have H := H1
  clear H1
  have H' := Aside0.mk H
  clear H
  go_enter Tryd.func45, Tryd.ntmps45
  go_wp2_with (first | (go_at_call 61; (with_reducible refine (strings_HasPrefix.calls a0 (⟨#[34]⟩ : ByteArray) true _ A2.out).mono ?_); rintro e w' ⟨rfl, ⟨nd, rfl⟩⟩; (try first | exact ⟨rfl, _, World.drewN_drewN _ _ _⟩ | exact ⟨rfl, _, Eq.trans (World.drewN_drewN _ _ _) (congrArg (World.drewN _) (Nat.add_assoc _ _ _))⟩)))
  repeat (go_quiet (first | (go_at_call 61; (with_reducible refine (strings_HasPrefix.calls a0 (⟨#[34]⟩ : ByteArray) true _ A2.out).mono ?_); rintro e w' ⟨rfl, ⟨nd, rfl⟩⟩; (try first | exact ⟨rfl, _, World.drewN_drewN _ _ _⟩ | exact ⟨rfl, _, Eq.trans (World.drewN_drewN _ _ _) (congrArg (World.drewN _) (Nat.add_assoc _ _ _))⟩))); try go_wp2_with (first | (go_at_call 61; (with_reducible refine (strings_HasPrefix.calls a0 (⟨#[34]⟩ : ByteArray) true _ A2.out).mono ?_); rintro e w' ⟨rfl, ⟨nd, rfl⟩⟩; (try first | exact ⟨rfl, _, World.drewN_drewN _ _ _⟩ | exact ⟨rfl, _, Eq.trans (World.drewN_drewN _ _ _) (congrArg (World.drewN _) (Nat.add_assoc _ _ _))⟩))))
  go_loopg [6, 7] k (fun kq v6 v7 w' => ∃ (x6_1 : List Int) (x7_1 : Int), v7 = .int .i64 x7_1 ∧ Aside0 (quote_Unquote.l0 kq a0 x6_1 x7_1 = some (r1, r2, r3)) ∧ Aside0 (kq ≤ k) ∧ Aside0 (Kd.R (Kd.int .u8) 5 w' w.heap.size (fun _ => True) v6 x6_1) ∧ Aside0 (Below w.heap.size w w'))
  case atStart => exact ⟨(([] : List Int)), (1), eqNow, H', ⟨Nat.le_refl _⟩, ⟨by first | exact Kd.R_nil _ _ _ _ _ | exact Kd.N_nil _ _ _ _ _ | exact Kd.V_nil _ _ _ _ _ | exact Kd.Q_nil _ _ _ _ _ | exact Kd.S_nil _ _ _ _ _⟩, ⟨belNow⟩⟩
  case round =>
   clear H'
   try clear p2
   try clear c3
   obtain ⟨x6_1, x7_1, rfl, HA, HK1, HO_6, HB⟩ := hrel
   cases gk with
   | zero => exact absurd HA.out (by simp [quote_Unquote.l0])
   | succ k1 =>
    have H := HA.out
    clear HA
    simp only [quote_Unquote.l0] at H
    by_cases c4 : x7_1 < (a0.size : Int)
    ·rw [if_pos c4] at H
     have c4b0 : decide (x7_1 < (a0.size : Int)) = true := decide_eq_true c4
     clear c4
     by_cases c5 : 0 ≤ x7_1
     ·rw [if_pos c5] at H
      have c5b0 : decide (0 ≤ x7_1) = true := decide_eq_true c5
      clear c5
      by_cases c7 : (bt a0 x7_1) = 34
      ·rw [if_pos c7] at H
       have c7b0 : ((bt a0 x7_1) == 34) = true := beq_iff_eq.mpr c7
       have c7b1 : ((bt a0 x7_1) != 34) = false := bne_eq_false_iff_eq.mpr c7
       clear c7
       obtain ⟨ji8, hji8⟩ : ∃ j_ : Int, (wrap64 (x7_1 + 1)) = j_ := ⟨_, rfl⟩
       replace H : (if 0 ≤ (ji8) then (if (ji8) ≤ (a0.size : Int) then (some (strOfNums x6_1, a0.extract ((ji8) : Int).toNat a0.size, none)) else (none)) else (none)) = some (r1, r2, r3) := by first | (rw [hji8] at H; exact H) | (simp only [hji8] at H ⊢; exact H)
       have hji8w : (IntKind.i64.wrap (x7_1 + 1)) = ji8 := (i64_w _).trans hji8
       by_cases c9 : 0 ≤ (ji8)
       ·rw [if_pos c9] at H
        have c9b0 := eq_true c9
        have c9b1 : decide (0 ≤ (ji8)) = true := decide_eq_true c9
        clear c9
        by_cases c10 : (ji8) ≤ (a0.size : Int)
        ·rw [if_pos c10] at H
         have c10b0 := eq_true c10
         have c10b1 : decide ((ji8) ≤ (a0.size : Int)) = true := decide_eq_true c10
         clear c10
         simp only [Option.some.injEq, Prod.mk.injEq] at H
         obtain ⟨rfl, rfl, rfl⟩ := H
         have p6 : 0 ≤ (x7_1 : Int) := ofDec
         have q6 : x7_1 < (a0.size : Int) := ofDec
         have hx6 := bt_at a0 x7_1
         replace p6 := eq_true p6
         replace q6 := eq_true q6
         have hcv11 := own_string (P := Tryd.prog) Tryd.underlying44 Tryd.underlying5 Tryd.underlying9 (Kd.own_of_R HO_6.out)
         have hcq11 := fun n_ : Nat => own_string (P := Tryd.prog) Tryd.underlying44 Tryd.underlying5 Tryd.underlying9 (Kd.own_of_R (Kd.R_drewN HO_6.out n_))
         go_wp2
         repeat (go_quiet (fail); try go_wp2)
         go_ret3
         exact ⟨by first | rfl | (simp [errW_none, errW_some] <;> rfl) | (simp only [← hji8]; first | rfl | (simp [errW_none, errW_some] <;> rfl)) | (simp [*, errW_none, errW_some] <;> rfl) | (simp only [i64_w, i32_w, u8_w]; first | rfl | (simp [errW_none, errW_some] <;> rfl)) | (simp only [bne_nil, beq_nil]; first | rfl | (simp <;> rfl)), belNow⟩
        ·rw [if_neg c10] at H
         exact absurd H (by simp)
       ·rw [if_neg c9] at H
        exact absurd H (by simp)
      ·rw [if_neg c7] at H
       have c7b0 : ((bt a0 x7_1) == 34) = false := beq_eq_false_iff_ne.mpr c7
       have c7b1 : ((bt a0 x7_1) != 34) = true := bne_iff_ne.mpr c7
       by_cases c12 : (bt a0 x7_1) = 10
       ·rw [if_pos c12] at H
        have c12b0 : ((bt a0 x7_1) == 10) = true := beq_iff_eq.mpr c12
        have c12b1 : ((bt a0 x7_1) != 10) = false := bne_eq_false_iff_eq.mpr c12
        clear c12
        simp only [Option.some.injEq, Prod.mk.injEq] at H
        obtain ⟨rfl, rfl, rfl⟩ := H
        have p6 : 0 ≤ (x7_1 : Int) := ofDec
        have q6 : x7_1 < (a0.size : Int) := ofDec
        have hx6 := bt_at a0 x7_1
        replace p6 := eq_true p6
        replace q6 := eq_true q6
        go_wp2
        repeat (go_quiet (fail); try go_wp2)
        go_ret3
        exact ⟨eqEnd, belNow⟩
       ·rw [if_neg c12] at H
        have c12b0 : ((bt a0 x7_1) == 10) = false := beq_eq_false_iff_ne.mpr c12
        have c12b1 : ((bt a0 x7_1) != 10) = true := bne_iff_ne.mpr c12
        by_cases c13 : (bt a0 x7_1) = 92
        ·rw [if_pos c13] at H
         have c13b0 : ((bt a0 x7_1) == 92) = true := beq_iff_eq.mpr c13
         have c13b1 : ((bt a0 x7_1) != 92) = false := bne_eq_false_iff_eq.mpr c13
         clear c13
         obtain ⟨ji14, hji14⟩ : ∃ j_ : Int, (wrap64 (x7_1 + 1)) = j_ := ⟨_, rfl⟩
         replace H : (if 0 ≤ (ji14) then (if (ji14) ≤ (a0.size : Int) then (if (a0.extract ((ji14) : Int).toNat a0.size).toList = ([] : List UInt8) then (some ((⟨#[]⟩ : ByteArray), (⟨#[]⟩ : ByteArray), some 20)) else (if 0 < ((a0.extract ((ji14) : Int).toNat a0.size).size : Int) then ((quote_meant.f k1 (bt (a0.extract ((ji14) : Int).toNat a0.size) 0)).bind fun bt171 => (if bt171.2 = true then (if x6_1.length < 140737488355328 then (quote_Unquote.l0 k1 a0 (x6_1 ++ [bt171.1]) (wrap64 (x7_1 + 2))) else (none)) else ((quote_octal.f k1 (a0.extract ((ji14) : Int).toNat a0.size)).bind fun bt176 => (if bt176.2 = true then (if x6_1.length < 140737488355328 then (quote_Unquote.l0 k1 a0 (x6_1 ++ [bt176.1]) (wrap64 (x7_1 + 4))) else (none)) else (some ((⟨#[]⟩ : ByteArray), (⟨#[]⟩ : ByteArray), some 20)))))) else (none))) else (none)) else (none)) = some (r1, r2, r3) := by first | (rw [hji14] at H; exact H) | (simp only [hji14] at H ⊢; exact H)
         have hji14w : (IntKind.i64.wrap (x7_1 + 1)) = ji14 := (i64_w _).trans hji14
         by_cases c15 : 0 ≤ (ji14)
         ·rw [if_pos c15] at H
          have c15b0 := eq_true c15
          have c15b1 : decide (0 ≤ (ji14)) = true := decide_eq_true c15
          clear c15
          by_cases c16 : (ji14) ≤ (a0.size : Int)
          ·rw [if_pos c16] at H
           have c16b0 := eq_true c16
           have c16b1 : decide ((ji14) ≤ (a0.size : Int)) = true := decide_eq_true c16
           clear c16
           by_cases c17 : (a0.extract ((ji14) : Int).toNat a0.size).toList = ([] : List UInt8)
           ·rw [if_pos c17] at H
            have c17b0 : ((a0.extract ((ji14) : Int).toNat a0.size).toList == ([] : List UInt8)) = true := beq_iff_eq.mpr c17
            have c17b1 : ((a0.extract ((ji14) : Int).toNat a0.size).toList != ([] : List UInt8)) = false := bne_eq_false_iff_eq.mpr c17
            clear c17
            simp only [Option.some.injEq, Prod.mk.injEq] at H
            obtain ⟨rfl, rfl, rfl⟩ := H
            have p6 : 0 ≤ (x7_1 : Int) := ofDec
            have q6 : x7_1 < (a0.size : Int) := ofDec
            have hx6 := bt_at a0 x7_1
            replace p6 := eq_true p6
            replace q6 := eq_true q6
            go_wp2
            repeat (go_quiet (fail); try go_wp2)
            go_ret3
            exact ⟨by first | rfl | (simp [errW_none, errW_some] <;> rfl) | (simp only [← hji14]; first | rfl | (simp [errW_none, errW_some] <;> rfl)) | (simp [*, errW_none, errW_some] <;> rfl) | (simp only [i64_w, i32_w, u8_w]; first | rfl | (simp [errW_none, errW_some] <;> rfl)) | (simp only [bne_nil, beq_nil]; first | rfl | (simp <;> rfl)), belNow⟩
           ·rw [if_neg c17] at H
            have c17b0 : ((a0.extract ((ji14) : Int).toNat a0.size).toList == ([] : List UInt8)) = false := beq_eq_false_iff_ne.mpr c17
            have c17b1 : ((a0.extract ((ji14) : Int).toNat a0.size).toList != ([] : List UInt8)) = true := bne_iff_ne.mpr c17
            by_cases c18 : 0 < ((a0.extract ((ji14) : Int).toNat a0.size).size : Int)
            ·rw [if_pos c18] at H
             have c18b0 : decide (0 < ((a0.extract ((ji14) : Int).toNat a0.size).size : Int)) = true := decide_eq_true c18
             have c18b1 : decide (0 < (a0.extract ((ji14) : Int).toNat a0.size).size) = true := decide_eq_true (by omega)
             clear c18
             replace H := Option.bind_eq_some_iff.mp H
             obtain ⟨⟨t171, t172⟩, A200, H⟩ := H
             replace H : (if t172 = true then (if x6_1.length < 140737488355328 then (quote_Unquote.l0 k1 a0 (x6_1 ++ [t171]) (wrap64 (x7_1 + 2))) else (none)) else ((quote_octal.f k1 (a0.extract ((ji14) : Int).toNat a0.size)).bind fun bt176 => (if bt176.2 = true then (if x6_1.length < 140737488355328 then (quote_Unquote.l0 k1 a0 (x6_1 ++ [bt176.1]) (wrap64 (x7_1 + 4))) else (none)) else (some ((⟨#[]⟩ : ByteArray), (⟨#[]⟩ : ByteArray), some 20))))) = some (r1, r2, r3) := H
             have A20 := Aside0.mk A200
             clear A200
             by_cases c21 : t172 = true
             ·subst c21
              have H1 : (if x6_1.length < 140737488355328 then (quote_Unquote.l0 k1 a0 (x6_1 ++ [t171]) (wrap64 (x7_1 + 2))) else (none)) = some (r1, r2, r3) := by rw [if_pos rfl] at H; exact H
              clear H
              have H := H1
              clear H1
              by_cases c22 : x6_1.length < 140737488355328
              ·rw [if_pos c22] at H
               have LMc22 := Aside0.mk c22
               clear c22
               obtain ⟨y173, hy173⟩ : ∃ y_ : List Int, y_ = (x6_1 ++ [t171]) := ⟨_, rfl⟩
               replace H : (quote_Unquote.l0 k1 a0 y173 (wrap64 (x7_1 + 2))) = some (r1, r2, r3) := by first | (rw [hy173]; with_reducible exact H) | (have H2_ := (Option.bind_some _ _).symm.trans H; rw [hy173]; with_reducible exact H2_) | (have H2_ := (Option.bind_some _ _).symm.trans H; with_reducible exact H2_) | with_reducible exact H | (rw [hy173]; exact H) | exact H
               have Ny173 := Aside0.mk hy173
               clear hy173
               have H' := Aside0.mk H
               clear H
               have p6 : 0 ≤ (x7_1 : Int) := ofDec
               have q6 : x7_1 < (a0.size : Int) := ofDec
               have hx6 := bt_at a0 x7_1
               replace p6 := eq_true p6
               replace q6 := eq_true q6
               have p19 : 0 ≤ (0 : Int) := (by omega)
               have q19 : 0 < (a0.extract ((ji14) : Int).toNat a0.size).size := (by have : (0 : Int) < ((a0.extract ((ji14) : Int).toNat a0.size).size : Int) := ofDec; omega)
               have hx19 : ∀ h : 0 < (a0.extract ((ji14) : Int).toNat a0.size).size, (((a0.extract ((ji14) : Int).toNat a0.size)[0]'h).toNat : Int) = bt (a0.extract ((ji14) : Int).toNat a0.size) 0 := bt_at (a0.extract ((ji14) : Int).toNat a0.size) 0
               clear p19
               have qi19 : (0 < ((a0.extract ((ji14) : Int).toNat a0.size).size : Int)) = True := eq_true (ofDec)
               replace q19 := eq_true q19
               (try (have qs19 := q19; simp only [ByteArray.size_extract, Nat.min_self, Nat.sub_zero] at qs19))
               go_wp2_with (first | (go_at_call 63; (with_reducible refine (quote_meant.calls k1 (bt (a0.extract ((ji14) : Int).toNat a0.size) 0) t171 true _ A20.out).mono ?_); rintro e w' ⟨rfl, ⟨nd, rfl⟩⟩; (try first | exact ⟨rfl, _, World.drewN_drewN _ _ _⟩ | exact ⟨rfl, _, Eq.trans (World.drewN_drewN _ _ _) (congrArg (World.drewN _) (Nat.add_assoc _ _ _))⟩)) | ((with_reducible refine gate_builtin (b := .append) (xs := #[.tmp 71, .tmp 73]) rfl ?_); at_builtin; refine Kd.R_append (Kd.int .u8) (w0 := w) w.heap.size rfl (.tmp 71) (.tmp 73) 44 5 (.int .u8 0) 1 rfl Tryd.underlying44 info5 rfl (by decide) (by omega) u6 x6_1 t171 [.int .u8 t171] (fun _ => True) (fun _ => False) rfl rfl ?aP (fun _ hk => hk.elim) ?aF ?aO ?aB ?aS ?aL ?_; (case aP => exact rfl); (case aB => exact belNow); (case aF => exact (fun _ _ => trivial)); (case aO => exact (kdUp HO_6.out)); (case aS => exact (below_size belNow)); (case aL => have := LMc22.out; omega); intro v174 w23 ho hb hg hat; rw [← Ny173.out] at ho; have n0_ := Aside0.mk (hb); have n1_ := Aside0.mk (ho); clear HB; clear HO_6; have HB := n0_; have HO175 := n1_; clear n0_ n1_; clear ho hb hg hat))
               repeat (go_quiet (first | (go_at_call 63; (with_reducible refine (quote_meant.calls k1 (bt (a0.extract ((ji14) : Int).toNat a0.size) 0) t171 true _ A20.out).mono ?_); rintro e w' ⟨rfl, ⟨nd, rfl⟩⟩; (try first | exact ⟨rfl, _, World.drewN_drewN _ _ _⟩ | exact ⟨rfl, _, Eq.trans (World.drewN_drewN _ _ _) (congrArg (World.drewN _) (Nat.add_assoc _ _ _))⟩)) | ((with_reducible refine gate_builtin (b := .append) (xs := #[.tmp 71, .tmp 73]) rfl ?_); at_builtin; refine Kd.R_append (Kd.int .u8) (w0 := w) w.heap.size rfl (.tmp 71) (.tmp 73) 44 5 (.int .u8 0) 1 rfl Tryd.underlying44 info5 rfl (by decide) (by omega) u6 x6_1 t171 [.int .u8 t171] (fun _ => True) (fun _ => False) rfl rfl ?aP (fun _ hk => hk.elim) ?aF ?aO ?aB ?aS ?aL ?_; (case aP => exact rfl); (case aB => exact belNow); (case aF => exact (fun _ _ => trivial)); (case aO => exact (kdUp HO_6.out)); (case aS => exact (below_size belNow)); (case aL => have := LMc22.out; omega); intro v174 w23 ho hb hg hat; rw [← Ny173.out] at ho; have n0_ := Aside0.mk (hb); have n1_ := Aside0.mk (ho); clear HB; clear HO_6; have HB := n0_; have HO175 := n1_; clear n0_ n1_; clear ho hb hg hat)); try go_wp2_with (first | (go_at_call 63; (with_reducible refine (quote_meant.calls k1 (bt (a0.extract ((ji14) : Int).toNat a0.size) 0) t171 true _ A20.out).mono ?_); rintro e w' ⟨rfl, ⟨nd, rfl⟩⟩; (try first | exact ⟨rfl, _, World.drewN_drewN _ _ _⟩ | exact ⟨rfl, _, Eq.trans (World.drewN_drewN _ _ _) (congrArg (World.drewN _) (Nat.add_assoc _ _ _))⟩)) | ((with_reducible refine gate_builtin (b := .append) (xs := #[.tmp 71, .tmp 73]) rfl ?_); at_builtin; refine Kd.R_append (Kd.int .u8) (w0 := w) w.heap.size rfl (.tmp 71) (.tmp 73) 44 5 (.int .u8 0) 1 rfl Tryd.underlying44 info5 rfl (by decide) (by omega) u6 x6_1 t171 [.int .u8 t171] (fun _ => True) (fun _ => False) rfl rfl ?aP (fun _ hk => hk.elim) ?aF ?aO ?aB ?aS ?aL ?_; (case aP => exact rfl); (case aB => exact belNow); (case aF => exact (fun _ _ => trivial)); (case aO => exact (kdUp HO_6.out)); (case aS => exact (below_size belNow)); (case aL => have := LMc22.out; omega); intro v174 w23 ho hb hg hat; rw [← Ny173.out] at ho; have n0_ := Aside0.mk (hb); have n1_ := Aside0.mk (ho); clear HB; clear HO_6; have HB := n0_; have HO175 := n1_; clear n0_ n1_; clear ho hb hg hat)))
               go_roundg k1
               case measure => have := HK1.out; omega
               case rel => exact ⟨(y173), (wrap64 (x7_1 + 2)), eqNow, H', ⟨by have := HK1.out; omega⟩, ⟨by (with_reducible repeat (first | apply Kd.R_alloc | apply Kd.R_drewN | apply Kd.R_drew)); (first | exact HO175.out | exact Kd.R_mono HO175.out (fun k_ h_ h2_ => h_ (h2_.trans ((fun (A_ : Option Addr) (n_ m_ c_ : Nat) => (show (Value.slice A_ n_ c_).ownBlock = (Value.slice A_ m_ c_).ownBlock by cases A_ <;> rfl)) _ _ _ _))))⟩, ⟨belNow⟩⟩
              ·rw [if_neg c22] at H
               exact absurd H (by simp)
             ·replace c21 := Bool.eq_false_iff.mpr c21
              subst c21
              have H1 : ((quote_octal.f k1 (a0.extract ((ji14) : Int).toNat a0.size)).bind fun bt176 => (if bt176.2 = true then (if x6_1.length < 140737488355328 then (quote_Unquote.l0 k1 a0 (x6_1 ++ [bt176.1]) (wrap64 (x7_1 + 4))) else (none)) else (some ((⟨#[]⟩ : ByteArray), (⟨#[]⟩ : ByteArray), some 20)))) = some (r1, r2, r3) := by rw [if_neg (show ¬ (false = true) by decide)] at H; exact H
              clear H
              have H := H1
              clear H1
              replace H := Option.bind_eq_some_iff.mp H
              obtain ⟨⟨t176, t177⟩, A240, H⟩ := H
              replace H : (if t177 = true then (if x6_1.length < 140737488355328 then (quote_Unquote.l0 k1 a0 (x6_1 ++ [t176]) (wrap64 (x7_1 + 4))) else (none)) else (some ((⟨#[]⟩ : ByteArray), (⟨#[]⟩ : ByteArray), some 20))) = some (r1, r2, r3) := H
              have A24 := Aside0.mk A240
              clear A240
              by_cases c25 : t177 = true
              ·subst c25
               have H1 : (if x6_1.length < 140737488355328 then (quote_Unquote.l0 k1 a0 (x6_1 ++ [t176]) (wrap64 (x7_1 + 4))) else (none)) = some (r1, r2, r3) := by rw [if_pos rfl] at H; exact H
               clear H
               have H := H1
               clear H1
               by_cases c26 : x6_1.length < 140737488355328
               ·rw [if_pos c26] at H
                have LMc26 := Aside0.mk c26
                clear c26
                obtain ⟨y178, hy178⟩ : ∃ y_ : List Int, y_ = (x6_1 ++ [t176]) := ⟨_, rfl⟩
                replace H : (quote_Unquote.l0 k1 a0 y178 (wrap64 (x7_1 + 4))) = some (r1, r2, r3) := by first | (rw [hy178]; with_reducible exact H) | (have H2_ := (Option.bind_some _ _).symm.trans H; rw [hy178]; with_reducible exact H2_) | (have H2_ := (Option.bind_some _ _).symm.trans H; with_reducible exact H2_) | with_reducible exact H | (rw [hy178]; exact H) | exact H
                have Ny178 := Aside0.mk hy178
                clear hy178
                have H' := Aside0.mk H
                clear H
                have p6 : 0 ≤ (x7_1 : Int) := ofDec
                have q6 : x7_1 < (a0.size : Int) := ofDec
                have hx6 := bt_at a0 x7_1
                replace p6 := eq_true p6
                replace q6 := eq_true q6
                have p19 : 0 ≤ (0 : Int) := (by omega)
                have q19 : 0 < (a0.extract ((ji14) : Int).toNat a0.size).size := (by have : (0 : Int) < ((a0.extract ((ji14) : Int).toNat a0.size).size : Int) := ofDec; omega)
                have hx19 : ∀ h : 0 < (a0.extract ((ji14) : Int).toNat a0.size).size, (((a0.extract ((ji14) : Int).toNat a0.size)[0]'h).toNat : Int) = bt (a0.extract ((ji14) : Int).toNat a0.size) 0 := bt_at (a0.extract ((ji14) : Int).toNat a0.size) 0
                clear p19
                have qi19 : (0 < ((a0.extract ((ji14) : Int).toNat a0.size).size : Int)) = True := eq_true (ofDec)
                replace q19 := eq_true q19
                (try (have qs19 := q19; simp only [ByteArray.size_extract, Nat.min_self, Nat.sub_zero] at qs19))
                go_wp2_with (first | (go_at_call 63; (with_reducible refine (quote_meant.calls k1 (bt (a0.extract ((ji14) : Int).toNat a0.size) 0) t171 false _ A20.out).mono ?_); rintro e w' ⟨rfl, ⟨nd, rfl⟩⟩; (try first | exact ⟨rfl, _, World.drewN_drewN _ _ _⟩ | exact ⟨rfl, _, Eq.trans (World.drewN_drewN _ _ _) (congrArg (World.drewN _) (Nat.add_assoc _ _ _))⟩)) | (go_at_call 64; (with_reducible refine (quote_octal.calls k1 (a0.extract ((ji14) : Int).toNat a0.size) t176 true _ A24.out).mono ?_); rintro e w' ⟨rfl, ⟨nd, rfl⟩⟩; (try first | exact ⟨rfl, _, World.drewN_drewN _ _ _⟩ | exact ⟨rfl, _, Eq.trans (World.drewN_drewN _ _ _) (congrArg (World.drewN _) (Nat.add_assoc _ _ _))⟩)) | ((with_reducible refine gate_builtin (b := .append) (xs := #[.tmp 85, .tmp 87]) rfl ?_); at_builtin; refine Kd.R_append (Kd.int .u8) (w0 := w) w.heap.size rfl (.tmp 85) (.tmp 87) 44 5 (.int .u8 0) 1 rfl Tryd.underlying44 info5 rfl (by decide) (by omega) u6 x6_1 t176 [.int .u8 t176] (fun _ => True) (fun _ => False) rfl rfl ?aP (fun _ hk => hk.elim) ?aF ?aO ?aB ?aS ?aL ?_; (case aP => exact rfl); (case aB => exact belNow); (case aF => exact (fun _ _ => trivial)); (case aO => exact (kdUp HO_6.out)); (case aS => exact (below_size belNow)); (case aL => have := LMc26.out; omega); intro v179 w27 ho hb hg hat; rw [← Ny178.out] at ho; have n0_ := Aside0.mk (hb); have n1_ := Aside0.mk (ho); clear HB; clear HO_6; have HB := n0_; have HO180 := n1_; clear n0_ n1_; clear ho hb hg hat))
                repeat (go_quiet (first | (go_at_call 63; (with_reducible refine (quote_meant.calls k1 (bt (a0.extract ((ji14) : Int).toNat a0.size) 0) t171 false _ A20.out).mono ?_); rintro e w' ⟨rfl, ⟨nd, rfl⟩⟩; (try first | exact ⟨rfl, _, World.drewN_drewN _ _ _⟩ | exact ⟨rfl, _, Eq.trans (World.drewN_drewN _ _ _) (congrArg (World.drewN _) (Nat.add_assoc _ _ _))⟩)) | (go_at_call 64; (with_reducible refine (quote_octal.calls k1 (a0.extract ((ji14) : Int).toNat a0.size) t176 true _ A24.out).mono ?_); rintro e w' ⟨rfl, ⟨nd, rfl⟩⟩; (try first | exact ⟨rfl, _, World.drewN_drewN _ _ _⟩ | exact ⟨rfl, _, Eq.trans (World.drewN_drewN _ _ _) (congrArg (World.drewN _) (Nat.add_assoc _ _ _))⟩)) | ((with_reducible refine gate_builtin (b := .append) (xs := #[.tmp 85, .tmp 87]) rfl ?_); at_builtin; refine Kd.R_append (Kd.int .u8) (w0 := w) w.heap.size rfl (.tmp 85) (.tmp 87) 44 5 (.int .u8 0) 1 rfl Tryd.underlying44 info5 rfl (by decide) (by omega) u6 x6_1 t176 [.int .u8 t176] (fun _ => True) (fun _ => False) rfl rfl ?aP (fun _ hk => hk.elim) ?aF ?aO ?aB ?aS ?aL ?_; (case aP => exact rfl); (case aB => exact belNow); (case aF => exact (fun _ _ => trivial)); (case aO => exact (kdUp HO_6.out)); (case aS => exact (below_size belNow)); (case aL => have := LMc26.out; omega); intro v179 w27 ho hb hg hat; rw [← Ny178.out] at ho; have n0_ := Aside0.mk (hb); have n1_ := Aside0.mk (ho); clear HB; clear HO_6; have HB := n0_; have HO180 := n1_; clear n0_ n1_; clear ho hb hg hat)); try go_wp2_with (first | (go_at_call 63; (with_reducible refine (quote_meant.calls k1 (bt (a0.extract ((ji14) : Int).toNat a0.size) 0) t171 false _ A20.out).mono ?_); rintro e w' ⟨rfl, ⟨nd, rfl⟩⟩; (try first | exact ⟨rfl, _, World.drewN_drewN _ _ _⟩ | exact ⟨rfl, _, Eq.trans (World.drewN_drewN _ _ _) (congrArg (World.drewN _) (Nat.add_assoc _ _ _))⟩)) | (go_at_call 64; (with_reducible refine (quote_octal.calls k1 (a0.extract ((ji14) : Int).toNat a0.size) t176 true _ A24.out).mono ?_); rintro e w' ⟨rfl, ⟨nd, rfl⟩⟩; (try first | exact ⟨rfl, _, World.drewN_drewN _ _ _⟩ | exact ⟨rfl, _, Eq.trans (World.drewN_drewN _ _ _) (congrArg (World.drewN _) (Nat.add_assoc _ _ _))⟩)) | ((with_reducible refine gate_builtin (b := .append) (xs := #[.tmp 85, .tmp 87]) rfl ?_); at_builtin; refine Kd.R_append (Kd.int .u8) (w0 := w) w.heap.size rfl (.tmp 85) (.tmp 87) 44 5 (.int .u8 0) 1 rfl Tryd.underlying44 info5 rfl (by decide) (by omega) u6 x6_1 t176 [.int .u8 t176] (fun _ => True) (fun _ => False) rfl rfl ?aP (fun _ hk => hk.elim) ?aF ?aO ?aB ?aS ?aL ?_; (case aP => exact rfl); (case aB => exact belNow); (case aF => exact (fun _ _ => trivial)); (case aO => exact (kdUp HO_6.out)); (case aS => exact (below_size belNow)); (case aL => have := LMc26.out; omega); intro v179 w27 ho hb hg hat; rw [← Ny178.out] at ho; have n0_ := Aside0.mk (hb); have n1_ := Aside0.mk (ho); clear HB; clear HO_6; have HB := n0_; have HO180 := n1_; clear n0_ n1_; clear ho hb hg hat)))
                go_roundg k1
                case measure => have := HK1.out; omega
                case rel => exact ⟨(y178), (wrap64 (x7_1 + 4)), eqNow, H', ⟨by have := HK1.out; omega⟩, ⟨by (with_reducible repeat (first | apply Kd.R_alloc | apply Kd.R_drewN | apply Kd.R_drew)); (first | exact HO180.out | exact Kd.R_mono HO180.out (fun k_ h_ h2_ => h_ (h2_.trans ((fun (A_ : Option Addr) (n_ m_ c_ : Nat) => (show (Value.slice A_ n_ c_).ownBlock = (Value.slice A_ m_ c_).ownBlock by cases A_ <;> rfl)) _ _ _ _))))⟩, ⟨belNow⟩⟩
               ·rw [if_neg c26] at H
                exact absurd H (by simp)
              ·replace c25 := Bool.eq_false_iff.mpr c25
               subst c25
               have H1 : (some ((⟨#[]⟩ : ByteArray), (⟨#[]⟩ : ByteArray), some 20)) = some (r1, r2, r3) := by rw [if_neg (show ¬ (false = true) by decide)] at H; exact H
               clear H
               have H := H1
               clear H1
               simp only [Option.some.injEq, Prod.mk.injEq] at H
               obtain ⟨rfl, rfl, rfl⟩ := H
               have p6 : 0 ≤ (x7_1 : Int) := ofDec
               have q6 : x7_1 < (a0.size : Int) := ofDec
               have hx6 := bt_at a0 x7_1
               replace p6 := eq_true p6
               replace q6 := eq_true q6
               have p19 : 0 ≤ (0 : Int) := (by omega)
               have q19 : 0 < (a0.extract ((ji14) : Int).toNat a0.size).size := (by have : (0 : Int) < ((a0.extract ((ji14) : Int).toNat a0.size).size : Int) := ofDec; omega)
               have hx19 : ∀ h : 0 < (a0.extract ((ji14) : Int).toNat a0.size).size, (((a0.extract ((ji14) : Int).toNat a0.size)[0]'h).toNat : Int) = bt (a0.extract ((ji14) : Int).toNat a0.size) 0 := bt_at (a0.extract ((ji14) : Int).toNat a0.size) 0
               clear p19
               have qi19 : (0 < ((a0.extract ((ji14) : Int).toNat a0.size).size : Int)) = True := eq_true (ofDec)
               replace q19 := eq_true q19
               (try (have qs19 := q19; simp only [ByteArray.size_extract, Nat.min_self, Nat.sub_zero] at qs19))
               go_wp2_with (first | (go_at_call 63; (with_reducible refine (quote_meant.calls k1 (bt (a0.extract ((ji14) : Int).toNat a0.size) 0) t171 false _ A20.out).mono ?_); rintro e w' ⟨rfl, ⟨nd, rfl⟩⟩; (try first | exact ⟨rfl, _, World.drewN_drewN _ _ _⟩ | exact ⟨rfl, _, Eq.trans (World.drewN_drewN _ _ _) (congrArg (World.drewN _) (Nat.add_assoc _ _ _))⟩)) | (go_at_call 64; (with_reducible refine (quote_octal.calls k1 (a0.extract ((ji14) : Int).toNat a0.size) t176 false _ A24.out).mono ?_); rintro e w' ⟨rfl, ⟨nd, rfl⟩⟩; (try first | exact ⟨rfl, _, World.drewN_drewN _ _ _⟩ | exact ⟨rfl, _, Eq.trans (World.drewN_drewN _ _ _) (congrArg (World.drewN _) (Nat.add_assoc _ _ _))⟩)))
               repeat (go_quiet (first | (go_at_call 63; (with_reducible refine (quote_meant.calls k1 (bt (a0.extract ((ji14) : Int).toNat a0.size) 0) t171 false _ A20.out).mono ?_); rintro e w' ⟨rfl, ⟨nd, rfl⟩⟩; (try first | exact ⟨rfl, _, World.drewN_drewN _ _ _⟩ | exact ⟨rfl, _, Eq.trans (World.drewN_drewN _ _ _) (congrArg (World.drewN _) (Nat.add_assoc _ _ _))⟩)) | (go_at_call 64; (with_reducible refine (quote_octal.calls k1 (a0.extract ((ji14) : Int).toNat a0.size) t176 false _ A24.out).mono ?_); rintro e w' ⟨rfl, ⟨nd, rfl⟩⟩; (try first | exact ⟨rfl, _, World.drewN_drewN _ _ _⟩ | exact ⟨rfl, _, Eq.trans (World.drewN_drewN _ _ _) (congrArg (World.drewN _) (Nat.add_assoc _ _ _))⟩))); try go_wp2_with (first | (go_at_call 63; (with_reducible refine (quote_meant.calls k1 (bt (a0.extract ((ji14) : Int).toNat a0.size) 0) t171 false _ A20.out).mono ?_); rintro e w' ⟨rfl, ⟨nd, rfl⟩⟩; (try first | exact ⟨rfl, _, World.drewN_drewN _ _ _⟩ | exact ⟨rfl, _, Eq.trans (World.drewN_drewN _ _ _) (congrArg (World.drewN _) (Nat.add_assoc _ _ _))⟩)) | (go_at_call 64; (with_reducible refine (quote_octal.calls k1 (a0.extract ((ji14) : Int).toNat a0.size) t176 false _ A24.out).mono ?_); rintro e w' ⟨rfl, ⟨nd, rfl⟩⟩; (try first | exact ⟨rfl, _, World.drewN_drewN _ _ _⟩ | exact ⟨rfl, _, Eq.trans (World.drewN_drewN _ _ _) (congrArg (World.drewN _) (Nat.add_assoc _ _ _))⟩))))
               go_ret3
               exact ⟨by first | rfl | (simp [errW_none, errW_some] <;> rfl) | (simp only [← hji14]; first | rfl | (simp [errW_none, errW_some] <;> rfl)) | (simp [*, errW_none, errW_some] <;> rfl) | (simp only [i64_w, i32_w, u8_w]; first | rfl | (simp [errW_none, errW_some] <;> rfl)) | (simp only [bne_nil, beq_nil]; first | rfl | (simp <;> rfl)), belNow⟩
            ·rw [if_neg c18] at H
             exact absurd H (by simp)
          ·rw [if_neg c16] at H
           exact absurd H (by simp)
         ·rw [if_neg c15] at H
          exact absurd H (by simp)
        ·rw [if_neg c13] at H
         have c13b0 : ((bt a0 x7_1) == 92) = false := beq_eq_false_iff_ne.mpr c13
         have c13b1 : ((bt a0 x7_1) != 92) = true := bne_iff_ne.mpr c13
         by_cases c28 : x6_1.length < 140737488355328
         ·rw [if_pos c28] at H
          have LMc28 := Aside0.mk c28
          clear c28
          obtain ⟨y168, hy168⟩ : ∃ y_ : List Int, y_ = (x6_1 ++ [bt a0 x7_1]) := ⟨_, rfl⟩
          replace H : (quote_Unquote.l0 k1 a0 y168 (wrap64 (x7_1 + 1))) = some (r1, r2, r3) := by first | (rw [hy168]; with_reducible exact H) | (have H2_ := (Option.bind_some _ _).symm.trans H; rw [hy168]; with_reducible exact H2_) | (have H2_ := (Option.bind_some _ _).symm.trans H; with_reducible exact H2_) | with_reducible exact H | (rw [hy168]; exact H) | exact H
          have Ny168 := Aside0.mk hy168
          clear hy168
          have H' := Aside0.mk H
          clear H
          have p6 : 0 ≤ (x7_1 : Int) := ofDec
          have q6 : x7_1 < (a0.size : Int) := ofDec
          have hx6 := bt_at a0 x7_1
          replace p6 := eq_true p6
          replace q6 := eq_true q6
          go_wp2_with (first | ((with_reducible refine gate_builtin (b := .append) (xs := #[.tmp 52, .tmp 54]) rfl ?_); at_builtin; refine Kd.R_append (Kd.int .u8) (w0 := w) w.heap.size rfl (.tmp 52) (.tmp 54) 44 5 (.int .u8 0) 1 rfl Tryd.underlying44 info5 rfl (by decide) (by omega) u6 x6_1 (bt a0 x7_1) [.int .u8 (bt a0 x7_1)] (fun _ => True) (fun _ => False) rfl rfl ?aP (fun _ hk => hk.elim) ?aF ?aO ?aB ?aS ?aL ?_; (case aP => exact rfl); (case aB => exact belNow); (case aF => exact (fun _ _ => trivial)); (case aO => exact (kdUp HO_6.out)); (case aS => exact (below_size belNow)); (case aL => have := LMc28.out; omega); intro v169 w29 ho hb hg hat; rw [← Ny168.out] at ho; have n0_ := Aside0.mk (hb); have n1_ := Aside0.mk (ho); clear HB; clear HO_6; have HB := n0_; have HO170 := n1_; clear n0_ n1_; clear ho hb hg hat))
          repeat (go_quiet (first | ((with_reducible refine gate_builtin (b := .append) (xs := #[.tmp 52, .tmp 54]) rfl ?_); at_builtin; refine Kd.R_append (Kd.int .u8) (w0 := w) w.heap.size rfl (.tmp 52) (.tmp 54) 44 5 (.int .u8 0) 1 rfl Tryd.underlying44 info5 rfl (by decide) (by omega) u6 x6_1 (bt a0 x7_1) [.int .u8 (bt a0 x7_1)] (fun _ => True) (fun _ => False) rfl rfl ?aP (fun _ hk => hk.elim) ?aF ?aO ?aB ?aS ?aL ?_; (case aP => exact rfl); (case aB => exact belNow); (case aF => exact (fun _ _ => trivial)); (case aO => exact (kdUp HO_6.out)); (case aS => exact (below_size belNow)); (case aL => have := LMc28.out; omega); intro v169 w29 ho hb hg hat; rw [← Ny168.out] at ho; have n0_ := Aside0.mk (hb); have n1_ := Aside0.mk (ho); clear HB; clear HO_6; have HB := n0_; have HO170 := n1_; clear n0_ n1_; clear ho hb hg hat)); try go_wp2_with (first | ((with_reducible refine gate_builtin (b := .append) (xs := #[.tmp 52, .tmp 54]) rfl ?_); at_builtin; refine Kd.R_append (Kd.int .u8) (w0 := w) w.heap.size rfl (.tmp 52) (.tmp 54) 44 5 (.int .u8 0) 1 rfl Tryd.underlying44 info5 rfl (by decide) (by omega) u6 x6_1 (bt a0 x7_1) [.int .u8 (bt a0 x7_1)] (fun _ => True) (fun _ => False) rfl rfl ?aP (fun _ hk => hk.elim) ?aF ?aO ?aB ?aS ?aL ?_; (case aP => exact rfl); (case aB => exact belNow); (case aF => exact (fun _ _ => trivial)); (case aO => exact (kdUp HO_6.out)); (case aS => exact (below_size belNow)); (case aL => have := LMc28.out; omega); intro v169 w29 ho hb hg hat; rw [← Ny168.out] at ho; have n0_ := Aside0.mk (hb); have n1_ := Aside0.mk (ho); clear HB; clear HO_6; have HB := n0_; have HO170 := n1_; clear n0_ n1_; clear ho hb hg hat)))
          go_roundg k1
          case measure => have := HK1.out; omega
          case rel => exact ⟨(y168), (wrap64 (x7_1 + 1)), eqNow, H', ⟨by have := HK1.out; omega⟩, ⟨by (with_reducible repeat (first | apply Kd.R_alloc | apply Kd.R_drewN | apply Kd.R_drew)); (first | exact HO170.out | exact Kd.R_mono HO170.out (fun k_ h_ h2_ => h_ (h2_.trans ((fun (A_ : Option Addr) (n_ m_ c_ : Nat) => (show (Value.slice A_ n_ c_).ownBlock = (Value.slice A_ m_ c_).ownBlock by cases A_ <;> rfl)) _ _ _ _))))⟩, ⟨belNow⟩⟩
         ·rw [if_neg c28] at H
          exact absurd H (by simp)
     ·rw [if_neg c5] at H
      exact absurd H (by simp)
    ·rw [if_neg c4] at H
     have c4b0 : decide (x7_1 < (a0.size : Int)) = false := decide_eq_false c4
     clear c4
     simp only [Option.some.injEq, Prod.mk.injEq] at H
     obtain ⟨rfl, rfl, rfl⟩ := H
     go_wp2
     repeat (go_quiet (fail); try go_wp2)
     go_ret3
     exact ⟨eqEnd, belNow⟩
 ·replace c3 := Bool.eq_false_iff.mpr c3
  subst c3
  have H1 : ((strings_IndexAny.f a0 (⟨#[9, 10]⟩ : ByteArray)).bind fun t167 => (if t167 < 0 then (if 0 ≤ (a0.size : Int) then (if (a0.size : Int) ≤ (a0.size : Int) then (some (a0.extract 0 a0.size, a0.extract a0.size a0.size, none)) else (none)) else (none)) else (if 0 ≤ t167 then (if t167 ≤ (a0.size : Int) then (some (a0.extract 0 (t167 : Int).toNat, a0.extract (t167 : Int).toNat a0.size, none)) else (none)) else (none)))) = some (r1, r2, r3) := by rw [if_neg (show ¬ (false = true) by decide)] at H; exact H
  clear H
  have H := H1
  clear H1
  replace H := Option.bind_eq_some_iff.mp H
  obtain ⟨t167, A300, H⟩ := H
  replace H : (if t167 < 0 then (if 0 ≤ (a0.size : Int) then (if (a0.size : Int) ≤ (a0.size : Int) then (some (a0.extract 0 a0.size, a0.extract a0.size a0.size, none)) else (none)) else (none)) else (if 0 ≤ t167 then (if t167 ≤ (a0.size : Int) then (some (a0.extract 0 (t167 : Int).toNat, a0.extract (t167 : Int).toNat a0.size, none)) else (none)) else (none))) = some (r1, r2, r3) := H
  have A30 := Aside0.mk A300
  clear A300
  by_cases c31 : t167 < 0
  ·rw [if_pos c31] at H
   have c31b0 : decide (t167 < 0) = true := decide_eq_true c31
   clear c31
   by_cases c32 : 0 ≤ (a0.size : Int)
   ·rw [if_pos c32] at H
    have c32b0 := eq_true c32
    have c32b1 : decide (0 ≤ (a0.size : Int)) = true := decide_eq_true c32
    clear c32
    by_cases c33 : (a0.size : Int) ≤ (a0.size : Int)
    ·rw [if_pos c33] at H
     have c33b0 := eq_true c33
     have c33b1 : decide ((a0.size : Int) ≤ (a0.size : Int)) = true := decide_eq_true c33
     clear c33
     have c34b0 := eq_true (ofDec : 0 ≤ (a0.size : Int))
     have c35b0 := eq_true (ofDec : (a0.size : Int) ≤ (a0.size : Int))
     simp only [Option.some.injEq, Prod.mk.injEq] at H
     obtain ⟨rfl, rfl, rfl⟩ := H
     go_enter Tryd.func45, Tryd.ntmps45
     go_wp2_with (first | (go_at_call 61; (with_reducible refine (strings_HasPrefix.calls a0 (⟨#[34]⟩ : ByteArray) false _ A2.out).mono ?_); rintro e w' ⟨rfl, ⟨nd, rfl⟩⟩; (try first | exact ⟨rfl, _, World.drewN_drewN _ _ _⟩ | exact ⟨rfl, _, Eq.trans (World.drewN_drewN _ _ _) (congrArg (World.drewN _) (Nat.add_assoc _ _ _))⟩)) | (go_at_call 62; (with_reducible refine (strings_IndexAny.calls a0 (⟨#[9, 10]⟩ : ByteArray) t167 _ A30.out).mono ?_); rintro e w36 ⟨rfl, hb⟩; have n0_ := Aside0.mk (below_step belNow hb); clear HB; have HB := n0_; clear n0_; (try clear hb); (try clear hb2); (try clear hk); (try clear hi)))
     repeat (go_quiet (first | (go_at_call 61; (with_reducible refine (strings_HasPrefix.calls a0 (⟨#[34]⟩ : ByteArray) false _ A2.out).mono ?_); rintro e w' ⟨rfl, ⟨nd, rfl⟩⟩; (try first | exact ⟨rfl, _, World.drewN_drewN _ _ _⟩ | exact ⟨rfl, _, Eq.trans (World.drewN_drewN _ _ _) (congrArg (World.drewN _) (Nat.add_assoc _ _ _))⟩)) | (go_at_call 62; (with_reducible refine (strings_IndexAny.calls a0 (⟨#[9, 10]⟩ : ByteArray) t167 _ A30.out).mono ?_); rintro e w36 ⟨rfl, hb⟩; have n0_ := Aside0.mk (below_step belNow hb); clear HB; have HB := n0_; clear n0_; (try clear hb); (try clear hb2); (try clear hk); (try clear hi))); try go_wp2_with (first | (go_at_call 61; (with_reducible refine (strings_HasPrefix.calls a0 (⟨#[34]⟩ : ByteArray) false _ A2.out).mono ?_); rintro e w' ⟨rfl, ⟨nd, rfl⟩⟩; (try first | exact ⟨rfl, _, World.drewN_drewN _ _ _⟩ | exact ⟨rfl, _, Eq.trans (World.drewN_drewN _ _ _) (congrArg (World.drewN _) (Nat.add_assoc _ _ _))⟩)) | (go_at_call 62; (with_reducible refine (strings_IndexAny.calls a0 (⟨#[9, 10]⟩ : ByteArray) t167 _ A30.out).mono ?_); rintro e w36 ⟨rfl, hb⟩; have n0_ := Aside0.mk (below_step belNow hb); clear HB; have HB := n0_; clear n0_; (try clear hb); (try clear hb2); (try clear hk); (try clear hi))))
     go_ret3
     exact ⟨eqEnd, belNow⟩
    ·rw [if_neg c33] at H
     exact absurd H (by simp)
   ·rw [if_neg c32] at H
    exact absurd H (by simp)
  ·rw [if_neg c31] at H
   have c31b0 : decide (t167 < 0) = false := decide_eq_false c31
   clear c31
   by_cases c37 : 0 ≤ t167
   ·rw [if_pos c37] at H
    have c37b0 := eq_true c37
    have c37b1 : decide (0 ≤ t167) = true := decide_eq_true c37
    clear c37
    by_cases c38 : t167 ≤ (a0.size : Int)
    ·rw [if_pos c38] at H
     have c38b0 := eq_true c38
     have c38b1 : decide (t167 ≤ (a0.size : Int)) = true := decide_eq_true c38
     clear c38
     have c39b0 := eq_true (ofDec : 0 ≤ t167)
     have c40b0 := eq_true (ofDec : t167 ≤ (a0.size : Int))
     simp only [Option.some.injEq, Prod.mk.injEq] at H
     obtain ⟨rfl, rfl, rfl⟩ := H
     go_enter Tryd.func45, Tryd.ntmps45
     go_wp2_with (first | (go_at_call 61; (with_reducible refine (strings_HasPrefix.calls a0 (⟨#[34]⟩ : ByteArray) false _ A2.out).mono ?_); rintro e w' ⟨rfl, ⟨nd, rfl⟩⟩; (try first | exact ⟨rfl, _, World.drewN_drewN _ _ _⟩ | exact ⟨rfl, _, Eq.trans (World.drewN_drewN _ _ _) (congrArg (World.drewN _) (Nat.add_assoc _ _ _))⟩)) | (go_at_call 62; (with_reducible refine (strings_IndexAny.calls a0 (⟨#[9, 10]⟩ : ByteArray) t167 _ A30.out).mono ?_); rintro e w41 ⟨rfl, hb⟩; have n0_ := Aside0.mk (below_step belNow hb); clear HB; have HB := n0_; clear n0_; (try clear hb); (try clear hb2); (try clear hk); (try clear hi)))
     repeat (go_quiet (first | (go_at_call 61; (with_reducible refine (strings_HasPrefix.calls a0 (⟨#[34]⟩ : ByteArray) false _ A2.out).mono ?_); rintro e w' ⟨rfl, ⟨nd, rfl⟩⟩; (try first | exact ⟨rfl, _, World.drewN_drewN _ _ _⟩ | exact ⟨rfl, _, Eq.trans (World.drewN_drewN _ _ _) (congrArg (World.drewN _) (Nat.add_assoc _ _ _))⟩)) | (go_at_call 62; (with_reducible refine (strings_IndexAny.calls a0 (⟨#[9, 10]⟩ : ByteArray) t167 _ A30.out).mono ?_); rintro e w41 ⟨rfl, hb⟩; have n0_ := Aside0.mk (below_step belNow hb); clear HB; have HB := n0_; clear n0_; (try clear hb); (try clear hb2); (try clear hk); (try clear hi))); try go_wp2_with (first | (go_at_call 61; (with_reducible refine (strings_HasPrefix.calls a0 (⟨#[34]⟩ : ByteArray) false _ A2.out).mono ?_); rintro e w' ⟨rfl, ⟨nd, rfl⟩⟩; (try first | exact ⟨rfl, _, World.drewN_drewN _ _ _⟩ | exact ⟨rfl, _, Eq.trans (World.drewN_drewN _ _ _) (congrArg (World.drewN _) (Nat.add_assoc _ _ _))⟩)) | (go_at_call 62; (with_reducible refine (strings_IndexAny.calls a0 (⟨#[9, 10]⟩ : ByteArray) t167 _ A30.out).mono ?_); rintro e w41 ⟨rfl, hb⟩; have n0_ := Aside0.mk (below_step belNow hb); clear HB; have HB := n0_; clear n0_; (try clear hb); (try clear hb2); (try clear hk); (try clear hi))))
     go_ret3
     exact ⟨eqEnd, belNow⟩
    ·rw [if_neg c38] at H
     exact absurd H (by simp)
   ·rw [if_neg c37] at H
    exact absurd H (by simp)
end Go.Proofs.YtfempodohmhhlaaDoor.Pp
