-- Printed by this session's pp.py over the kit's printer, out of the translation. Lean checks it.
import Derived.Test.YtfempodohmhhlaaDoorESq
import Derived.Test.YtfempodohmhhlaaDoorPp0
import Derived.Test.YtfempodohmhhlaaDoorPp8
import Derived.Test.YtfempodohmhhlaaDoorPp9
import Derived.Test.YtfempodohmhhlaaDoorEEncode
namespace Go.Proofs.YtfempodohmhhlaaDoor.Pp
open Go.RowKit Go.Proofs.YtfempodohmhhlaaDoor.Ext Go.Proofs.YtfempodohmhhlaaDoorW.PrintWords Go.Proofs.YtfempodohmhhlaaDoorW.PrintLast Go.Proofs.YtfempodohmhhlaaDoorW.PrintMore
attribute [local go_sem] max2_int min2_int max_two min_two max_three min_three max_four min_four   -- for this text's walks alone
set_option linter.unusedVariables false
set_option linter.unusedSimpArgs false
def selvagelaw27_JournalBack.j0 : Nat → ByteArray → Int → ByteArray → Bool → Option (Bool)
 | 0, _, _, _, _ => none
 | k + 1, x1, x2, x7, x41 => if x41 = true then (some false) else (if (x7.size : Int) = 0 then (none) else (if 0 ≤ (Int.tmod (wrap64 ((Int.tmod x2 (x7.size : Int)) + (x7.size : Int))) (x7.size : Int)) then (if (Int.tmod (wrap64 ((Int.tmod x2 (x7.size : Int)) + (x7.size : Int))) (x7.size : Int)) ≤ (x7.size : Int) then ((journal_Decode.f k (x7.extract 0 ((Int.tmod (wrap64 ((Int.tmod x2 (x7.size : Int)) + (x7.size : Int))) (x7.size : Int)) : Int).toNat)).bind fun bt342 => (if bt342.2.isNone = true then (some false) else ((journal_Decode.f k x1).bind fun bt347 => (if bt347.2.isNone = true then ((journal_Encode.f k bt347.1).bind fun bt352 => (if bt352.2.isNone = true then (if bt352.1.toList = x1.toList then ((selvagelaw27_sure.f k).bind fun t355 => (some t355)) else (some false)) else (some false))) else (if (bt347.1.length : Int) = 0 then ((selvagelaw27_sure.f k).bind fun t356 => (some t356)) else (some false)))))) else (none)) else (none)))
def selvagelaw27_JournalBack.f (k : Nat) (l0 : List (S32)) (a1 : ByteArray) (a2 : Int) : Option (Bool) := (journal_Encode.f k l0).bind fun bt333 => (if bt333.2.isNone = true then ((journal_Decode.f k bt333.1).bind fun bt336 => (if bt336.2.isNone = true then ((selvagelaw27_same.f k l0 bt336.1).bind fun t341 => (if t341 = true then (selvagelaw27_JournalBack.j0 k a1 a2 bt333.1 ((bt333.1.size : Int) == 0)) else (selvagelaw27_JournalBack.j0 k a1 a2 bt333.1 true))) else (selvagelaw27_JournalBack.j0 k a1 a2 bt333.1 true))) else ((journal_Decode.f k a1).bind fun bt357 => (if bt357.2.isNone = true then ((journal_Encode.f k bt357.1).bind fun bt362 => (if bt362.2.isNone = true then (if bt362.1.toList = a1.toList then ((selvagelaw27_sure.f k).bind fun t365 => (some t365)) else (some false)) else (some false))) else (if (bt357.1.length : Int) = 0 then ((selvagelaw27_sure.f k).bind fun t366 => (some t366)) else (some false)))))
set_option maxHeartbeats 8000000 in
set_option maxRecDepth 100000 in
theorem selvagelaw27_JournalBack.calls (k : Nat) (A0 : Option Addr) (c0 : Nat) (l0 : List (S32)) (a1 : ByteArray) (a2 : Int) (r : Bool) (w : World) (hr0 : Kd.C k32 w A0 l0.length l0) (hc0 : l0.length ≤ c0) (hGL : Glob w) (h : selvagelaw27_JournalBack.f k l0 a1 a2 = some r) :
  Calls Tryd.prog 5 #[.slice A0 l0.length c0, .string a1, .int .i64 a2] w fun e w' => e = .returned (.bool r) ∧ Below w.heap.size w w' := by
 have hu24 := Tryd.underlying24
 have hu53 := Tryd.underlying53
 have HR0 := Aside0.mk hr0
 have HC0 := Aside0.mk hc0
 clear hr0 hc0
 have HB := Aside0.mk (Below.refl w.heap.size w)
 have H : ((journal_Encode.f k l0).bind fun bt333 => (if bt333.2.isNone = true then ((journal_Decode.f k bt333.1).bind fun bt336 => (if bt336.2.isNone = true then ((selvagelaw27_same.f k l0 bt336.1).bind fun t341 => (if t341 = true then (selvagelaw27_JournalBack.j0 k a1 a2 bt333.1 ((bt333.1.size : Int) == 0)) else (selvagelaw27_JournalBack.j0 k a1 a2 bt333.1 true))) else (selvagelaw27_JournalBack.j0 k a1 a2 bt333.1 true))) else ((journal_Decode.f k a1).bind fun bt357 => (if bt357.2.isNone = true then ((journal_Encode.f k bt357.1).bind fun bt362 => (if bt362.2.isNone = true then (if bt362.1.toList = a1.toList then ((selvagelaw27_sure.f k).bind fun t365 => (some t365)) else (some false)) else (some false))) else (if (bt357.1.length : Int) = 0 then ((selvagelaw27_sure.f k).bind fun t366 => (some t366)) else (some false)))))) = some r := h
 clear h
 replace H := Option.bind_eq_some_iff.mp H
 obtain ⟨⟨t333, t334⟩, A40, H⟩ := H
 replace H : (if t334.isNone = true then ((journal_Decode.f k t333).bind fun bt336 => (if bt336.2.isNone = true then ((selvagelaw27_same.f k l0 bt336.1).bind fun t341 => (if t341 = true then (selvagelaw27_JournalBack.j0 k a1 a2 t333 ((t333.size : Int) == 0)) else (selvagelaw27_JournalBack.j0 k a1 a2 t333 true))) else (selvagelaw27_JournalBack.j0 k a1 a2 t333 true))) else ((journal_Decode.f k a1).bind fun bt357 => (if bt357.2.isNone = true then ((journal_Encode.f k bt357.1).bind fun bt362 => (if bt362.2.isNone = true then (if bt362.1.toList = a1.toList then ((selvagelaw27_sure.f k).bind fun t365 => (some t365)) else (some false)) else (some false))) else (if (bt357.1.length : Int) = 0 then ((selvagelaw27_sure.f k).bind fun t366 => (some t366)) else (some false))))) = some r := H
 have A4 := Aside0.mk A40
 clear A40
 rcases t334 with _ | q335
 ·have H1 : ((journal_Decode.f k t333).bind fun bt336 => (if bt336.2.isNone = true then ((selvagelaw27_same.f k l0 bt336.1).bind fun t341 => (if t341 = true then (selvagelaw27_JournalBack.j0 k a1 a2 t333 ((t333.size : Int) == 0)) else (selvagelaw27_JournalBack.j0 k a1 a2 t333 true))) else (selvagelaw27_JournalBack.j0 k a1 a2 t333 true))) = some r := by rw [if_pos (show (none : Option Int).isNone = true by rfl)] at H; exact H
  clear H
  have H := H1
  clear H1
  try simp only [errW_none, errW_some]
  replace H := Option.bind_eq_some_iff.mp H
  obtain ⟨⟨t336, t337⟩, A50, H⟩ := H
  replace H : (if t337.isNone = true then ((selvagelaw27_same.f k l0 t336).bind fun t341 => (if t341 = true then (selvagelaw27_JournalBack.j0 k a1 a2 t333 ((t333.size : Int) == 0)) else (selvagelaw27_JournalBack.j0 k a1 a2 t333 true))) else (selvagelaw27_JournalBack.j0 k a1 a2 t333 true)) = some r := H
  have A5 := Aside0.mk A50
  clear A50
  have HC6 := Aside0.mk H
  clear H
  go_enter Tryd.func5, Tryd.ntmps5
  go_upto_region 4 with (first | ((with_reducible refine gate_callee (f := 7) rfl ?_); refine goesL_ (some 19) rfl rfl Tryd.func7 (by kernel_rfl) rfl #[.slice A0 l0.length c0] rfl argsOk ?_; (with_reducible refine (journal_Encode.calls k _ _ l0 t333 none _ ?side1 ?side2 ?side3 A4.out).mono ?_); (case side1 => repeat (first | exact HR0.out | (with_reducible refine Kd.C_alloc ?_ _) | (with_reducible refine Kd.C_drewN ?_ _) | (with_reducible refine Kd.C_drew ?_))); (case side2 => exact HC0.out); (case side3 => exact Glob.below hGL belNow); rintro e w7 ⟨rfl, hb⟩; refine ⟨_, rfl, ?_⟩; have n0_ := Aside0.mk (below_step belNow hb); clear HB; have HB := n0_; clear n0_; (try clear hb); (try clear hb2); (try clear hk); (try clear hi); (try simp only [errW_none, errW_some])) | ((with_reducible refine gate_callee (f := 13) rfl ?_); refine goesL_ (some 26) rfl rfl Tryd.func13 (by kernel_rfl) rfl #[.string t333] rfl argsOk ?_; (with_reducible refine (journal_Decode.calls k t333 t336 t337 _ ?side1 A5.out).mono ?_); (case side1 => exact Glob.below hGL belNow); rintro e w8 ⟨v338, rfl, ho0, hb⟩; refine ⟨_, rfl, ?_⟩; have n0_ := Aside0.mk (Kd.R_lower ho0 (below_size belNow)); have n1_ := Aside0.mk (below_step belNow hb); clear HB; have HO339 := n0_; have HB := n1_; clear n0_ n1_; (try clear hb); (try clear hb2); (try clear hk); (try clear hi); (try clear ho0); (try simp only [errW_none, errW_some])))
  (try simp only [Act.put, List.setIfInBounds_toArray, List.set_cons_zero, List.set_cons_succ])
  go_cut [41] (fun v41 wc => ∃ (kq : Nat) (x41_5 : Bool), v41 = .bool x41_5 ∧ Aside0 (selvagelaw27_JournalBack.j0 kq a1 a2 t333 x41_5 = some r) ∧ Aside0 (kq ≤ k) ∧ Aside0 (Below w.heap.size w wc))
  case first =>
   have H := HC6.out
   clear HC6
   rcases t337 with _ | q340
   ·have H1 : ((selvagelaw27_same.f k l0 t336).bind fun t341 => (if t341 = true then (selvagelaw27_JournalBack.j0 k a1 a2 t333 ((t333.size : Int) == 0)) else (selvagelaw27_JournalBack.j0 k a1 a2 t333 true))) = some r := by rw [if_pos (show (none : Option Int).isNone = true by rfl)] at H; exact H
    clear H
    have H := H1
    clear H1
    try simp only [errW_none, errW_some]
    replace H := Option.bind_eq_some_iff.mp H
    obtain ⟨t341, A90, H⟩ := H
    replace H : (if t341 = true then (selvagelaw27_JournalBack.j0 k a1 a2 t333 ((t333.size : Int) == 0)) else (selvagelaw27_JournalBack.j0 k a1 a2 t333 true)) = some r := H
    have A9 := Aside0.mk A90
    clear A90
    by_cases c10 : t341 = true
    ·subst c10
     have H1 : (selvagelaw27_JournalBack.j0 k a1 a2 t333 ((t333.size : Int) == 0)) = some r := by rw [if_pos rfl] at H; exact H
     clear H
     have H := H1
     clear H1
     have H' := Aside0.mk H
     clear H
     obtain ⟨Ao11, co11, eo11⟩ := Kd.R_slice HO339.out
     subst eo11
     go_wp2_with (first | (go_at_call 15; (with_reducible refine (selvagelaw27_same.calls k _ _ l0 _ _ t336 true _ ?side1 ?side2 ?side3 ?side4 A9.out).mono ?_); (case side1 => repeat (first | exact (Kd.C_below HR0.out HB.out) | (with_reducible refine Kd.C_alloc ?_ _) | (with_reducible refine Kd.C_drewN ?_ _) | (with_reducible refine Kd.C_drew ?_))); (case side2 => exact HC0.out); (case side3 => repeat (first | exact (Kd.R_reads' HO339.out).2.2 | (with_reducible refine Kd.C_alloc ?_ _) | (with_reducible refine Kd.C_drewN ?_ _) | (with_reducible refine Kd.C_drew ?_))); (case side4 => exact (Kd.R_reads' HO339.out).2.1); rintro e w' ⟨rfl, ⟨nd, rfl⟩⟩))
     go_meet
     case rel => exact ⟨_, (((t333.size : Int) == 0)), eqNow, H', ⟨by first | omega | exact Nat.le_refl _⟩, ⟨belNow⟩⟩
    ·replace c10 := Bool.eq_false_iff.mpr c10
     subst c10
     have H1 : (selvagelaw27_JournalBack.j0 k a1 a2 t333 true) = some r := by rw [if_neg (show ¬ (false = true) by decide)] at H; exact H
     clear H
     have H := H1
     clear H1
     have H' := Aside0.mk H
     clear H
     obtain ⟨Ao12, co12, eo12⟩ := Kd.R_slice HO339.out
     subst eo12
     go_wp2_with (first | (go_at_call 15; (with_reducible refine (selvagelaw27_same.calls k _ _ l0 _ _ t336 false _ ?side1 ?side2 ?side3 ?side4 A9.out).mono ?_); (case side1 => repeat (first | exact (Kd.C_below HR0.out HB.out) | (with_reducible refine Kd.C_alloc ?_ _) | (with_reducible refine Kd.C_drewN ?_ _) | (with_reducible refine Kd.C_drew ?_))); (case side2 => exact HC0.out); (case side3 => repeat (first | exact (Kd.R_reads' HO339.out).2.2 | (with_reducible refine Kd.C_alloc ?_ _) | (with_reducible refine Kd.C_drewN ?_ _) | (with_reducible refine Kd.C_drew ?_))); (case side4 => exact (Kd.R_reads' HO339.out).2.1); rintro e w' ⟨rfl, ⟨nd, rfl⟩⟩))
     go_meet
     case rel => exact ⟨_, (true), eqNow, H', ⟨by first | omega | exact Nat.le_refl _⟩, ⟨belNow⟩⟩
   ·have H1 : (selvagelaw27_JournalBack.j0 k a1 a2 t333 true) = some r := by rw [if_neg (show ¬ (some q340).isNone = true by simp)] at H; exact H
    clear H
    have H := H1
    clear H1
    try simp only [errW_none, errW_some]
    have H' := Aside0.mk H
    clear H
    go_wp2
    go_meet
    case rel => exact ⟨_, (true), eqNow, H', ⟨by first | omega | exact Nat.le_refl _⟩, ⟨belNow⟩⟩
  case rest =>
   clear HC6
   try clear c1
   try clear p2
   try clear q3
   try clear c5
   try clear c7
   try clear c10
   try clear q335
   try clear q340
   obtain ⟨kq, x41_5, rfl, HA, HJ5, HB⟩ := hcut
   cases kq with
   | zero => exact absurd HA.out (by simp [selvagelaw27_JournalBack.j0])
   | succ kj5 =>
    have H := HA.out
    clear HA
    simp only [selvagelaw27_JournalBack.j0] at H
    by_cases c13 : x41_5 = true
    ·subst c13
     have H1 : (some false) = some r := by rw [if_pos rfl] at H; exact H
     clear H
     have H := H1
     clear H1
     obtain rfl := Option.some.inj H
     go_wp2
     go_ret
     exact ⟨eqEnd, belNow⟩
    ·replace c13 := Bool.eq_false_iff.mpr c13
     subst c13
     have H1 : (if (t333.size : Int) = 0 then (none) else (if 0 ≤ (Int.tmod (wrap64 ((Int.tmod a2 (t333.size : Int)) + (t333.size : Int))) (t333.size : Int)) then (if (Int.tmod (wrap64 ((Int.tmod a2 (t333.size : Int)) + (t333.size : Int))) (t333.size : Int)) ≤ (t333.size : Int) then ((journal_Decode.f kj5 (t333.extract 0 ((Int.tmod (wrap64 ((Int.tmod a2 (t333.size : Int)) + (t333.size : Int))) (t333.size : Int)) : Int).toNat)).bind fun bt342 => (if bt342.2.isNone = true then (some false) else ((journal_Decode.f kj5 a1).bind fun bt347 => (if bt347.2.isNone = true then ((journal_Encode.f kj5 bt347.1).bind fun bt352 => (if bt352.2.isNone = true then (if bt352.1.toList = a1.toList then ((selvagelaw27_sure.f kj5).bind fun t355 => (some t355)) else (some false)) else (some false))) else (if (bt347.1.length : Int) = 0 then ((selvagelaw27_sure.f kj5).bind fun t356 => (some t356)) else (some false)))))) else (none)) else (none))) = some r := by rw [if_neg (show ¬ (false = true) by decide)] at H; exact H
     clear H
     have H := H1
     clear H1
     by_cases c14 : (t333.size : Int) = 0
     ·rw [if_pos c14] at H
      exact absurd H (by simp)
     ·rw [if_neg c14] at H
      have c14b0 : ((t333.size : Int) == 0) = false := beq_eq_false_iff_ne.mpr c14
      have c14b1 : ((t333.size : Int) != 0) = true := bne_iff_ne.mpr c14
      obtain ⟨ji15, hji15⟩ : ∃ j_ : Int, (Int.tmod (wrap64 ((Int.tmod a2 (t333.size : Int)) + (t333.size : Int))) (t333.size : Int)) = j_ := ⟨_, rfl⟩
      replace H : (if 0 ≤ (ji15) then (if (ji15) ≤ (t333.size : Int) then ((journal_Decode.f kj5 (t333.extract 0 ((ji15) : Int).toNat)).bind fun bt342 => (if bt342.2.isNone = true then (some false) else ((journal_Decode.f kj5 a1).bind fun bt347 => (if bt347.2.isNone = true then ((journal_Encode.f kj5 bt347.1).bind fun bt352 => (if bt352.2.isNone = true then (if bt352.1.toList = a1.toList then ((selvagelaw27_sure.f kj5).bind fun t355 => (some t355)) else (some false)) else (some false))) else (if (bt347.1.length : Int) = 0 then ((selvagelaw27_sure.f kj5).bind fun t356 => (some t356)) else (some false)))))) else (none)) else (none)) = some r := by first | (rw [hji15] at H; exact H) | (simp only [hji15] at H ⊢; exact H)
      by_cases c16 : 0 ≤ (ji15)
      ·rw [if_pos c16] at H
       have c16b0 := eq_true c16
       have c16b1 : decide (0 ≤ (ji15)) = true := decide_eq_true c16
       clear c16
       by_cases c17 : (ji15) ≤ (t333.size : Int)
       ·rw [if_pos c17] at H
        have c17b0 := eq_true c17
        have c17b1 : decide ((ji15) ≤ (t333.size : Int)) = true := decide_eq_true c17
        clear c17
        replace H := Option.bind_eq_some_iff.mp H
        obtain ⟨⟨t342, t343⟩, A180, H⟩ := H
        replace H : (if t343.isNone = true then (some false) else ((journal_Decode.f kj5 a1).bind fun bt347 => (if bt347.2.isNone = true then ((journal_Encode.f kj5 bt347.1).bind fun bt352 => (if bt352.2.isNone = true then (if bt352.1.toList = a1.toList then ((selvagelaw27_sure.f kj5).bind fun t355 => (some t355)) else (some false)) else (some false))) else (if (bt347.1.length : Int) = 0 then ((selvagelaw27_sure.f kj5).bind fun t356 => (some t356)) else (some false))))) = some r := H
        have A18 := Aside0.mk A180
        clear A180
        rcases t343 with _ | q346
        ·have H1 : (some false) = some r := by rw [if_pos (show (none : Option Int).isNone = true by rfl)] at H; exact H
         clear H
         have H := H1
         clear H1
         try simp only [errW_none, errW_some]
         obtain rfl := Option.some.inj H
         go_wp2_with (first | ((with_reducible refine gate_callee (f := 13) rfl ?_); refine goesL_ (some 56) rfl rfl Tryd.func13 (by kernel_rfl) rfl #[.string (t333.extract 0 ((ji15) : Int).toNat)] rfl (by (try simp only [List.map_toArray, List.map_cons, List.map_nil]); first | done | (simp only [hji15]; rfl) | rfl | (simp only [List.length_drop, List.length_take]; rfl)) ?_; (with_reducible refine (journal_Decode.calls kj5 (t333.extract 0 ((ji15) : Int).toNat) t342 none _ ?side1 A18.out).mono ?_); (case side1 => exact Glob.below hGL belNow); rintro e w19 ⟨v344, rfl, ho0, hb⟩; refine ⟨_, rfl, ?_⟩; have n0_ := Aside0.mk (Kd.R_lower ho0 (below_size belNow)); have n1_ := Aside0.mk (below_step belNow hb); clear HB; have HO345 := n0_; have HB := n1_; clear n0_ n1_; (try clear hb); (try clear hb2); (try clear hk); (try clear hi); (try clear ho0); (try simp only [errW_none, errW_some])))
         go_ret
         exact ⟨by first | rfl | (simp [errW_none, errW_some] <;> rfl) | (simp only [← hji15]; first | rfl | (simp [errW_none, errW_some] <;> rfl)) | (simp [*, errW_none, errW_some] <;> rfl) | (simp only [i64_w, i32_w, u8_w]; first | rfl | (simp [errW_none, errW_some] <;> rfl)) | (simp only [bne_nil, beq_nil]; first | rfl | (simp <;> rfl)), belNow⟩
        ·have H1 : ((journal_Decode.f kj5 a1).bind fun bt347 => (if bt347.2.isNone = true then ((journal_Encode.f kj5 bt347.1).bind fun bt352 => (if bt352.2.isNone = true then (if bt352.1.toList = a1.toList then ((selvagelaw27_sure.f kj5).bind fun t355 => (some t355)) else (some false)) else (some false))) else (if (bt347.1.length : Int) = 0 then ((selvagelaw27_sure.f kj5).bind fun t356 => (some t356)) else (some false)))) = some r := by rw [if_neg (show ¬ (some q346).isNone = true by simp)] at H; exact H
         clear H
         have H := H1
         clear H1
         try simp only [errW_none, errW_some]
         replace H := Option.bind_eq_some_iff.mp H
         obtain ⟨⟨t347, t348⟩, A200, H⟩ := H
         replace H : (if t348.isNone = true then ((journal_Encode.f kj5 t347).bind fun bt352 => (if bt352.2.isNone = true then (if bt352.1.toList = a1.toList then ((selvagelaw27_sure.f kj5).bind fun t355 => (some t355)) else (some false)) else (some false))) else (if (t347.length : Int) = 0 then ((selvagelaw27_sure.f kj5).bind fun t356 => (some t356)) else (some false))) = some r := H
         have A20 := Aside0.mk A200
         clear A200
         rcases t348 with _ | q351
         ·have H1 : ((journal_Encode.f kj5 t347).bind fun bt352 => (if bt352.2.isNone = true then (if bt352.1.toList = a1.toList then ((selvagelaw27_sure.f kj5).bind fun t355 => (some t355)) else (some false)) else (some false))) = some r := by rw [if_pos (show (none : Option Int).isNone = true by rfl)] at H; exact H
          clear H
          have H := H1
          clear H1
          try simp only [errW_none, errW_some]
          replace H := Option.bind_eq_some_iff.mp H
          obtain ⟨⟨t352, t353⟩, A210, H⟩ := H
          replace H : (if t353.isNone = true then (if t352.toList = a1.toList then ((selvagelaw27_sure.f kj5).bind fun t355 => (some t355)) else (some false)) else (some false)) = some r := H
          have A21 := Aside0.mk A210
          clear A210
          rcases t353 with _ | q354
          ·have H1 : (if t352.toList = a1.toList then ((selvagelaw27_sure.f kj5).bind fun t355 => (some t355)) else (some false)) = some r := by rw [if_pos (show (none : Option Int).isNone = true by rfl)] at H; exact H
           clear H
           have H := H1
           clear H1
           try simp only [errW_none, errW_some]
           by_cases c22 : t352.toList = a1.toList
           ·rw [if_pos c22] at H
            have c22b0 : (t352.toList == a1.toList) = true := beq_iff_eq.mpr c22
            have c22b1 : (t352.toList != a1.toList) = false := bne_eq_false_iff_eq.mpr c22
            clear c22
            replace H := Option.bind_eq_some_iff.mp H
            obtain ⟨t355, A230, H⟩ := H
            replace H : (some t355) = some r := H
            have A23 := Aside0.mk A230
            clear A230
            obtain rfl := Option.some.inj H
            go_wp2_with (first | ((with_reducible refine gate_callee (f := 13) rfl ?_); refine goesL_ (some 56) rfl rfl Tryd.func13 (by kernel_rfl) rfl #[.string (t333.extract 0 ((ji15) : Int).toNat)] rfl (by (try simp only [List.map_toArray, List.map_cons, List.map_nil]); first | done | (simp only [hji15]; rfl) | rfl | (simp only [List.length_drop, List.length_take]; rfl)) ?_; (with_reducible refine (journal_Decode.calls kj5 (t333.extract 0 ((ji15) : Int).toNat) t342 (some q346) _ ?side1 A18.out).mono ?_); (case side1 => exact Glob.below hGL belNow); rintro e w24 ⟨v344, rfl, ho0, hb⟩; refine ⟨_, rfl, ?_⟩; have n0_ := Aside0.mk (Kd.R_lower ho0 (below_size belNow)); have n1_ := Aside0.mk (below_step belNow hb); clear HB; have HO345 := n0_; have HB := n1_; clear n0_ n1_; (try clear hb); (try clear hb2); (try clear hk); (try clear hi); (try clear ho0); (try simp only [errW_none, errW_some])) | ((with_reducible refine gate_callee (f := 13) rfl ?_); refine goesL_ (some 63) rfl rfl Tryd.func13 (by kernel_rfl) rfl #[.string a1] rfl argsOk ?_; (with_reducible refine (journal_Decode.calls kj5 a1 t347 none _ ?side1 A20.out).mono ?_); (case side1 => exact Glob.below hGL belNow); rintro e w25 ⟨v349, rfl, ho0, hb⟩; refine ⟨_, rfl, ?_⟩; have n0_ := Aside0.mk (Kd.R_elder' (kdUp HO345.out) (Kd.R_base ho0) hb); have n1_ := Aside0.mk (Kd.R_lower (Kd.R_new' ho0 (Kd.R_lt (kdUp HO345.out))) (below_size belNow)); have n2_ := Aside0.mk (below_step belNow hb); clear HO345; clear HB; have HO345 := n0_; have HO350 := n1_; have HB := n2_; clear n0_ n1_ n2_; (try clear hb); (try clear hb2); (try clear hk); (try clear hi); (try clear ho0); (try simp only [errW_none, errW_some]); obtain ⟨Ao26, co26, eo26⟩ := Kd.R_slice HO350.out; subst eo26) | ((with_reducible refine gate_callee (f := 7) rfl ?_); refine goesL_ (some 76) rfl rfl Tryd.func7 (by kernel_rfl) rfl #[.slice Ao26 t347.length co26] rfl argsOk ?_; (with_reducible refine (journal_Encode.calls kj5 _ _ t347 t352 none _ ?side1 ?side2 ?side3 A21.out).mono ?_); (case side1 => repeat (first | exact (Kd.R_reads' HO350.out).2.2 | (with_reducible refine Kd.C_alloc ?_ _) | (with_reducible refine Kd.C_drewN ?_ _) | (with_reducible refine Kd.C_drew ?_))); (case side2 => exact (Kd.R_reads' HO350.out).2.1); (case side3 => exact Glob.below hGL belNow); rintro e w27 ⟨rfl, hb⟩; refine ⟨_, rfl, ?_⟩; have n0_ := Aside0.mk (Kd.R_below (kdUp HO345.out) hb); have n1_ := Aside0.mk (Kd.R_below (kdUp HO350.out) hb); have n2_ := Aside0.mk (below_step belNow hb); clear HO345; clear HO350; clear HB; have HO345 := n0_; have HO350 := n1_; have HB := n2_; clear n0_ n1_ n2_; (try clear hb); (try clear hb2); (try clear hk); (try clear hi); (try simp only [errW_none, errW_some])) | (go_at_call 12; (with_reducible refine (selvagelaw27_sure.calls kj5  t355 _ ?side1 A23.out).mono ?_); (case side1 => exact Glob.below hGL belNow); rintro e w28 ⟨rfl, hb⟩; have n0_ := Aside0.mk (Kd.R_below (kdUp HO345.out) hb); have n1_ := Aside0.mk (Kd.R_below (kdUp HO350.out) hb); have n2_ := Aside0.mk (below_step belNow hb); clear HO345; clear HO350; clear HB; have HO345 := n0_; have HO350 := n1_; have HB := n2_; clear n0_ n1_ n2_; (try clear hb); (try clear hb2); (try clear hk); (try clear hi)))
            go_ret
            exact ⟨by first | rfl | (simp [errW_none, errW_some] <;> rfl) | (simp only [← hji15]; first | rfl | (simp [errW_none, errW_some] <;> rfl)) | (simp [*, errW_none, errW_some] <;> rfl) | (simp only [i64_w, i32_w, u8_w]; first | rfl | (simp [errW_none, errW_some] <;> rfl)) | (simp only [bne_nil, beq_nil]; first | rfl | (simp <;> rfl)), belNow⟩
           ·rw [if_neg c22] at H
            have c22b0 : (t352.toList == a1.toList) = false := beq_eq_false_iff_ne.mpr c22
            have c22b1 : (t352.toList != a1.toList) = true := bne_iff_ne.mpr c22
            obtain rfl := Option.some.inj H
            go_wp2_with (first | ((with_reducible refine gate_callee (f := 13) rfl ?_); refine goesL_ (some 56) rfl rfl Tryd.func13 (by kernel_rfl) rfl #[.string (t333.extract 0 ((ji15) : Int).toNat)] rfl (by (try simp only [List.map_toArray, List.map_cons, List.map_nil]); first | done | (simp only [hji15]; rfl) | rfl | (simp only [List.length_drop, List.length_take]; rfl)) ?_; (with_reducible refine (journal_Decode.calls kj5 (t333.extract 0 ((ji15) : Int).toNat) t342 (some q346) _ ?side1 A18.out).mono ?_); (case side1 => exact Glob.below hGL belNow); rintro e w29 ⟨v344, rfl, ho0, hb⟩; refine ⟨_, rfl, ?_⟩; have n0_ := Aside0.mk (Kd.R_lower ho0 (below_size belNow)); have n1_ := Aside0.mk (below_step belNow hb); clear HB; have HO345 := n0_; have HB := n1_; clear n0_ n1_; (try clear hb); (try clear hb2); (try clear hk); (try clear hi); (try clear ho0); (try simp only [errW_none, errW_some])) | ((with_reducible refine gate_callee (f := 13) rfl ?_); refine goesL_ (some 63) rfl rfl Tryd.func13 (by kernel_rfl) rfl #[.string a1] rfl argsOk ?_; (with_reducible refine (journal_Decode.calls kj5 a1 t347 none _ ?side1 A20.out).mono ?_); (case side1 => exact Glob.below hGL belNow); rintro e w30 ⟨v349, rfl, ho0, hb⟩; refine ⟨_, rfl, ?_⟩; have n0_ := Aside0.mk (Kd.R_elder' (kdUp HO345.out) (Kd.R_base ho0) hb); have n1_ := Aside0.mk (Kd.R_lower (Kd.R_new' ho0 (Kd.R_lt (kdUp HO345.out))) (below_size belNow)); have n2_ := Aside0.mk (below_step belNow hb); clear HO345; clear HB; have HO345 := n0_; have HO350 := n1_; have HB := n2_; clear n0_ n1_ n2_; (try clear hb); (try clear hb2); (try clear hk); (try clear hi); (try clear ho0); (try simp only [errW_none, errW_some]); obtain ⟨Ao31, co31, eo31⟩ := Kd.R_slice HO350.out; subst eo31) | ((with_reducible refine gate_callee (f := 7) rfl ?_); refine goesL_ (some 76) rfl rfl Tryd.func7 (by kernel_rfl) rfl #[.slice Ao31 t347.length co31] rfl argsOk ?_; (with_reducible refine (journal_Encode.calls kj5 _ _ t347 t352 none _ ?side1 ?side2 ?side3 A21.out).mono ?_); (case side1 => repeat (first | exact (Kd.R_reads' HO350.out).2.2 | (with_reducible refine Kd.C_alloc ?_ _) | (with_reducible refine Kd.C_drewN ?_ _) | (with_reducible refine Kd.C_drew ?_))); (case side2 => exact (Kd.R_reads' HO350.out).2.1); (case side3 => exact Glob.below hGL belNow); rintro e w32 ⟨rfl, hb⟩; refine ⟨_, rfl, ?_⟩; have n0_ := Aside0.mk (Kd.R_below (kdUp HO345.out) hb); have n1_ := Aside0.mk (Kd.R_below (kdUp HO350.out) hb); have n2_ := Aside0.mk (below_step belNow hb); clear HO345; clear HO350; clear HB; have HO345 := n0_; have HO350 := n1_; have HB := n2_; clear n0_ n1_ n2_; (try clear hb); (try clear hb2); (try clear hk); (try clear hi); (try simp only [errW_none, errW_some])))
            go_ret
            exact ⟨by first | rfl | (simp [errW_none, errW_some] <;> rfl) | (simp only [← hji15]; first | rfl | (simp [errW_none, errW_some] <;> rfl)) | (simp [*, errW_none, errW_some] <;> rfl) | (simp only [i64_w, i32_w, u8_w]; first | rfl | (simp [errW_none, errW_some] <;> rfl)) | (simp only [bne_nil, beq_nil]; first | rfl | (simp <;> rfl)), belNow⟩
          ·have H1 : (some false) = some r := by rw [if_neg (show ¬ (some q354).isNone = true by simp)] at H; exact H
           clear H
           have H := H1
           clear H1
           try simp only [errW_none, errW_some]
           obtain rfl := Option.some.inj H
           go_wp2_with (first | ((with_reducible refine gate_callee (f := 13) rfl ?_); refine goesL_ (some 56) rfl rfl Tryd.func13 (by kernel_rfl) rfl #[.string (t333.extract 0 ((ji15) : Int).toNat)] rfl (by (try simp only [List.map_toArray, List.map_cons, List.map_nil]); first | done | (simp only [hji15]; rfl) | rfl | (simp only [List.length_drop, List.length_take]; rfl)) ?_; (with_reducible refine (journal_Decode.calls kj5 (t333.extract 0 ((ji15) : Int).toNat) t342 (some q346) _ ?side1 A18.out).mono ?_); (case side1 => exact Glob.below hGL belNow); rintro e w33 ⟨v344, rfl, ho0, hb⟩; refine ⟨_, rfl, ?_⟩; have n0_ := Aside0.mk (Kd.R_lower ho0 (below_size belNow)); have n1_ := Aside0.mk (below_step belNow hb); clear HB; have HO345 := n0_; have HB := n1_; clear n0_ n1_; (try clear hb); (try clear hb2); (try clear hk); (try clear hi); (try clear ho0); (try simp only [errW_none, errW_some])) | ((with_reducible refine gate_callee (f := 13) rfl ?_); refine goesL_ (some 63) rfl rfl Tryd.func13 (by kernel_rfl) rfl #[.string a1] rfl argsOk ?_; (with_reducible refine (journal_Decode.calls kj5 a1 t347 none _ ?side1 A20.out).mono ?_); (case side1 => exact Glob.below hGL belNow); rintro e w34 ⟨v349, rfl, ho0, hb⟩; refine ⟨_, rfl, ?_⟩; have n0_ := Aside0.mk (Kd.R_elder' (kdUp HO345.out) (Kd.R_base ho0) hb); have n1_ := Aside0.mk (Kd.R_lower (Kd.R_new' ho0 (Kd.R_lt (kdUp HO345.out))) (below_size belNow)); have n2_ := Aside0.mk (below_step belNow hb); clear HO345; clear HB; have HO345 := n0_; have HO350 := n1_; have HB := n2_; clear n0_ n1_ n2_; (try clear hb); (try clear hb2); (try clear hk); (try clear hi); (try clear ho0); (try simp only [errW_none, errW_some]); obtain ⟨Ao35, co35, eo35⟩ := Kd.R_slice HO350.out; subst eo35) | ((with_reducible refine gate_callee (f := 7) rfl ?_); refine goesL_ (some 76) rfl rfl Tryd.func7 (by kernel_rfl) rfl #[.slice Ao35 t347.length co35] rfl argsOk ?_; (with_reducible refine (journal_Encode.calls kj5 _ _ t347 t352 (some q354) _ ?side1 ?side2 ?side3 A21.out).mono ?_); (case side1 => repeat (first | exact (Kd.R_reads' HO350.out).2.2 | (with_reducible refine Kd.C_alloc ?_ _) | (with_reducible refine Kd.C_drewN ?_ _) | (with_reducible refine Kd.C_drew ?_))); (case side2 => exact (Kd.R_reads' HO350.out).2.1); (case side3 => exact Glob.below hGL belNow); rintro e w36 ⟨rfl, hb⟩; refine ⟨_, rfl, ?_⟩; have n0_ := Aside0.mk (Kd.R_below (kdUp HO345.out) hb); have n1_ := Aside0.mk (Kd.R_below (kdUp HO350.out) hb); have n2_ := Aside0.mk (below_step belNow hb); clear HO345; clear HO350; clear HB; have HO345 := n0_; have HO350 := n1_; have HB := n2_; clear n0_ n1_ n2_; (try clear hb); (try clear hb2); (try clear hk); (try clear hi); (try simp only [errW_none, errW_some])))
           go_ret
           exact ⟨by first | rfl | (simp [errW_none, errW_some] <;> rfl) | (simp only [← hji15]; first | rfl | (simp [errW_none, errW_some] <;> rfl)) | (simp [*, errW_none, errW_some] <;> rfl) | (simp only [i64_w, i32_w, u8_w]; first | rfl | (simp [errW_none, errW_some] <;> rfl)) | (simp only [bne_nil, beq_nil]; first | rfl | (simp <;> rfl)), belNow⟩
         ·have H1 : (if (t347.length : Int) = 0 then ((selvagelaw27_sure.f kj5).bind fun t356 => (some t356)) else (some false)) = some r := by rw [if_neg (show ¬ (some q351).isNone = true by simp)] at H; exact H
          clear H
          have H := H1
          clear H1
          try simp only [errW_none, errW_some]
          by_cases c37 : (t347.length : Int) = 0
          ·rw [if_pos c37] at H
           have c37b0 : ((t347.length : Int) == 0) = true := beq_iff_eq.mpr c37
           have c37b1 : ((t347.length : Int) != 0) = false := bne_eq_false_iff_eq.mpr c37
           clear c37
           replace H := Option.bind_eq_some_iff.mp H
           obtain ⟨t356, A380, H⟩ := H
           replace H : (some t356) = some r := H
           have A38 := Aside0.mk A380
           clear A380
           obtain rfl := Option.some.inj H
           go_wp2_with (first | ((with_reducible refine gate_callee (f := 13) rfl ?_); refine goesL_ (some 56) rfl rfl Tryd.func13 (by kernel_rfl) rfl #[.string (t333.extract 0 ((ji15) : Int).toNat)] rfl (by (try simp only [List.map_toArray, List.map_cons, List.map_nil]); first | done | (simp only [hji15]; rfl) | rfl | (simp only [List.length_drop, List.length_take]; rfl)) ?_; (with_reducible refine (journal_Decode.calls kj5 (t333.extract 0 ((ji15) : Int).toNat) t342 (some q346) _ ?side1 A18.out).mono ?_); (case side1 => exact Glob.below hGL belNow); rintro e w39 ⟨v344, rfl, ho0, hb⟩; refine ⟨_, rfl, ?_⟩; have n0_ := Aside0.mk (Kd.R_lower ho0 (below_size belNow)); have n1_ := Aside0.mk (below_step belNow hb); clear HB; have HO345 := n0_; have HB := n1_; clear n0_ n1_; (try clear hb); (try clear hb2); (try clear hk); (try clear hi); (try clear ho0); (try simp only [errW_none, errW_some])) | ((with_reducible refine gate_callee (f := 13) rfl ?_); refine goesL_ (some 63) rfl rfl Tryd.func13 (by kernel_rfl) rfl #[.string a1] rfl argsOk ?_; (with_reducible refine (journal_Decode.calls kj5 a1 t347 (some q351) _ ?side1 A20.out).mono ?_); (case side1 => exact Glob.below hGL belNow); rintro e w40 ⟨v349, rfl, ho0, hb⟩; refine ⟨_, rfl, ?_⟩; have n0_ := Aside0.mk (Kd.R_elder' (kdUp HO345.out) (Kd.R_base ho0) hb); have n1_ := Aside0.mk (Kd.R_lower (Kd.R_new' ho0 (Kd.R_lt (kdUp HO345.out))) (below_size belNow)); have n2_ := Aside0.mk (below_step belNow hb); clear HO345; clear HB; have HO345 := n0_; have HO350 := n1_; have HB := n2_; clear n0_ n1_ n2_; (try clear hb); (try clear hb2); (try clear hk); (try clear hi); (try clear ho0); (try simp only [errW_none, errW_some]); obtain ⟨Ao41, co41, eo41⟩ := Kd.R_slice HO350.out; subst eo41) | (go_at_call 12; (with_reducible refine (selvagelaw27_sure.calls kj5  t356 _ ?side1 A38.out).mono ?_); (case side1 => exact Glob.below hGL belNow); rintro e w42 ⟨rfl, hb⟩; have n0_ := Aside0.mk (Kd.R_below (kdUp HO345.out) hb); have n1_ := Aside0.mk (Kd.R_below (kdUp HO350.out) hb); have n2_ := Aside0.mk (below_step belNow hb); clear HO345; clear HO350; clear HB; have HO345 := n0_; have HO350 := n1_; have HB := n2_; clear n0_ n1_ n2_; (try clear hb); (try clear hb2); (try clear hk); (try clear hi)))
           go_ret
           exact ⟨by first | rfl | (simp [errW_none, errW_some] <;> rfl) | (simp only [← hji15]; first | rfl | (simp [errW_none, errW_some] <;> rfl)) | (simp [*, errW_none, errW_some] <;> rfl) | (simp only [i64_w, i32_w, u8_w]; first | rfl | (simp [errW_none, errW_some] <;> rfl)) | (simp only [bne_nil, beq_nil]; first | rfl | (simp <;> rfl)), belNow⟩
          ·rw [if_neg c37] at H
           have c37b0 : ((t347.length : Int) == 0) = false := beq_eq_false_iff_ne.mpr c37
           have c37b1 : ((t347.length : Int) != 0) = true := bne_iff_ne.mpr c37
           have c37b2 : ¬ (t347 = []) := fun h_ => c37 (by rw [h_]; rfl)
           obtain rfl := Option.some.inj H
           go_wp2_with (first | ((with_reducible refine gate_callee (f := 13) rfl ?_); refine goesL_ (some 56) rfl rfl Tryd.func13 (by kernel_rfl) rfl #[.string (t333.extract 0 ((ji15) : Int).toNat)] rfl (by (try simp only [List.map_toArray, List.map_cons, List.map_nil]); first | done | (simp only [hji15]; rfl) | rfl | (simp only [List.length_drop, List.length_take]; rfl)) ?_; (with_reducible refine (journal_Decode.calls kj5 (t333.extract 0 ((ji15) : Int).toNat) t342 (some q346) _ ?side1 A18.out).mono ?_); (case side1 => exact Glob.below hGL belNow); rintro e w43 ⟨v344, rfl, ho0, hb⟩; refine ⟨_, rfl, ?_⟩; have n0_ := Aside0.mk (Kd.R_lower ho0 (below_size belNow)); have n1_ := Aside0.mk (below_step belNow hb); clear HB; have HO345 := n0_; have HB := n1_; clear n0_ n1_; (try clear hb); (try clear hb2); (try clear hk); (try clear hi); (try clear ho0); (try simp only [errW_none, errW_some])) | ((with_reducible refine gate_callee (f := 13) rfl ?_); refine goesL_ (some 63) rfl rfl Tryd.func13 (by kernel_rfl) rfl #[.string a1] rfl argsOk ?_; (with_reducible refine (journal_Decode.calls kj5 a1 t347 (some q351) _ ?side1 A20.out).mono ?_); (case side1 => exact Glob.below hGL belNow); rintro e w44 ⟨v349, rfl, ho0, hb⟩; refine ⟨_, rfl, ?_⟩; have n0_ := Aside0.mk (Kd.R_elder' (kdUp HO345.out) (Kd.R_base ho0) hb); have n1_ := Aside0.mk (Kd.R_lower (Kd.R_new' ho0 (Kd.R_lt (kdUp HO345.out))) (below_size belNow)); have n2_ := Aside0.mk (below_step belNow hb); clear HO345; clear HB; have HO345 := n0_; have HO350 := n1_; have HB := n2_; clear n0_ n1_ n2_; (try clear hb); (try clear hb2); (try clear hk); (try clear hi); (try clear ho0); (try simp only [errW_none, errW_some]); obtain ⟨Ao45, co45, eo45⟩ := Kd.R_slice HO350.out; subst eo45))
           go_ret
           exact ⟨by first | rfl | (simp [errW_none, errW_some] <;> rfl) | (simp only [← hji15]; first | rfl | (simp [errW_none, errW_some] <;> rfl)) | (simp [*, errW_none, errW_some] <;> rfl) | (simp only [i64_w, i32_w, u8_w]; first | rfl | (simp [errW_none, errW_some] <;> rfl)) | (simp only [bne_nil, beq_nil]; first | rfl | (simp <;> rfl)), belNow⟩
       ·rw [if_neg c17] at H
        exact absurd H (by simp)
      ·rw [if_neg c16] at H
       exact absurd H (by simp)
 ·have H1 : ((journal_Decode.f k a1).bind fun bt357 => (if bt357.2.isNone = true then ((journal_Encode.f k bt357.1).bind fun bt362 => (if bt362.2.isNone = true then (if bt362.1.toList = a1.toList then ((selvagelaw27_sure.f k).bind fun t365 => (some t365)) else (some false)) else (some false))) else (if (bt357.1.length : Int) = 0 then ((selvagelaw27_sure.f k).bind fun t366 => (some t366)) else (some false)))) = some r := by rw [if_neg (show ¬ (some q335).isNone = true by simp)] at H; exact H
  clear H
  have H := H1
  clear H1
  try simp only [errW_none, errW_some]
  replace H := Option.bind_eq_some_iff.mp H
  obtain ⟨⟨t357, t358⟩, A460, H⟩ := H
  replace H : (if t358.isNone = true then ((journal_Encode.f k t357).bind fun bt362 => (if bt362.2.isNone = true then (if bt362.1.toList = a1.toList then ((selvagelaw27_sure.f k).bind fun t365 => (some t365)) else (some false)) else (some false))) else (if (t357.length : Int) = 0 then ((selvagelaw27_sure.f k).bind fun t366 => (some t366)) else (some false))) = some r := H
  have A46 := Aside0.mk A460
  clear A460
  rcases t358 with _ | q361
  ·have H1 : ((journal_Encode.f k t357).bind fun bt362 => (if bt362.2.isNone = true then (if bt362.1.toList = a1.toList then ((selvagelaw27_sure.f k).bind fun t365 => (some t365)) else (some false)) else (some false))) = some r := by rw [if_pos (show (none : Option Int).isNone = true by rfl)] at H; exact H
   clear H
   have H := H1
   clear H1
   try simp only [errW_none, errW_some]
   replace H := Option.bind_eq_some_iff.mp H
   obtain ⟨⟨t362, t363⟩, A470, H⟩ := H
   replace H : (if t363.isNone = true then (if t362.toList = a1.toList then ((selvagelaw27_sure.f k).bind fun t365 => (some t365)) else (some false)) else (some false)) = some r := H
   have A47 := Aside0.mk A470
   clear A470
   rcases t363 with _ | q364
   ·have H1 : (if t362.toList = a1.toList then ((selvagelaw27_sure.f k).bind fun t365 => (some t365)) else (some false)) = some r := by rw [if_pos (show (none : Option Int).isNone = true by rfl)] at H; exact H
    clear H
    have H := H1
    clear H1
    try simp only [errW_none, errW_some]
    by_cases c48 : t362.toList = a1.toList
    ·rw [if_pos c48] at H
     have c48b0 : (t362.toList == a1.toList) = true := beq_iff_eq.mpr c48
     have c48b1 : (t362.toList != a1.toList) = false := bne_eq_false_iff_eq.mpr c48
     clear c48
     replace H := Option.bind_eq_some_iff.mp H
     obtain ⟨t365, A490, H⟩ := H
     replace H : (some t365) = some r := H
     have A49 := Aside0.mk A490
     clear A490
     obtain rfl := Option.some.inj H
     go_enter Tryd.func5, Tryd.ntmps5
     go_wp2_with (first | ((with_reducible refine gate_callee (f := 7) rfl ?_); refine goesL_ (some 19) rfl rfl Tryd.func7 (by kernel_rfl) rfl #[.slice A0 l0.length c0] rfl argsOk ?_; (with_reducible refine (journal_Encode.calls k _ _ l0 t333 (some q335) _ ?side1 ?side2 ?side3 A4.out).mono ?_); (case side1 => repeat (first | exact HR0.out | (with_reducible refine Kd.C_alloc ?_ _) | (with_reducible refine Kd.C_drewN ?_ _) | (with_reducible refine Kd.C_drew ?_))); (case side2 => exact HC0.out); (case side3 => exact Glob.below hGL belNow); rintro e w50 ⟨rfl, hb⟩; refine ⟨_, rfl, ?_⟩; have n0_ := Aside0.mk (below_step belNow hb); clear HB; have HB := n0_; clear n0_; (try clear hb); (try clear hb2); (try clear hk); (try clear hi); (try simp only [errW_none, errW_some])) | ((with_reducible refine gate_callee (f := 13) rfl ?_); refine goesL_ (some 63) rfl rfl Tryd.func13 (by kernel_rfl) rfl #[.string a1] rfl argsOk ?_; (with_reducible refine (journal_Decode.calls k a1 t357 none _ ?side1 A46.out).mono ?_); (case side1 => exact Glob.below hGL belNow); rintro e w51 ⟨v359, rfl, ho0, hb⟩; refine ⟨_, rfl, ?_⟩; have n0_ := Aside0.mk (Kd.R_lower ho0 (below_size belNow)); have n1_ := Aside0.mk (below_step belNow hb); clear HB; have HO360 := n0_; have HB := n1_; clear n0_ n1_; (try clear hb); (try clear hb2); (try clear hk); (try clear hi); (try clear ho0); (try simp only [errW_none, errW_some]); obtain ⟨Ao52, co52, eo52⟩ := Kd.R_slice HO360.out; subst eo52) | ((with_reducible refine gate_callee (f := 7) rfl ?_); refine goesL_ (some 76) rfl rfl Tryd.func7 (by kernel_rfl) rfl #[.slice Ao52 t357.length co52] rfl argsOk ?_; (with_reducible refine (journal_Encode.calls k _ _ t357 t362 none _ ?side1 ?side2 ?side3 A47.out).mono ?_); (case side1 => repeat (first | exact (Kd.R_reads' HO360.out).2.2 | (with_reducible refine Kd.C_alloc ?_ _) | (with_reducible refine Kd.C_drewN ?_ _) | (with_reducible refine Kd.C_drew ?_))); (case side2 => exact (Kd.R_reads' HO360.out).2.1); (case side3 => exact Glob.below hGL belNow); rintro e w53 ⟨rfl, hb⟩; refine ⟨_, rfl, ?_⟩; have n0_ := Aside0.mk (Kd.R_below (kdUp HO360.out) hb); have n1_ := Aside0.mk (below_step belNow hb); clear HO360; clear HB; have HO360 := n0_; have HB := n1_; clear n0_ n1_; (try clear hb); (try clear hb2); (try clear hk); (try clear hi); (try simp only [errW_none, errW_some])) | (go_at_call 12; (with_reducible refine (selvagelaw27_sure.calls k  t365 _ ?side1 A49.out).mono ?_); (case side1 => exact Glob.below hGL belNow); rintro e w54 ⟨rfl, hb⟩; have n0_ := Aside0.mk (Kd.R_below (kdUp HO360.out) hb); have n1_ := Aside0.mk (below_step belNow hb); clear HO360; clear HB; have HO360 := n0_; have HB := n1_; clear n0_ n1_; (try clear hb); (try clear hb2); (try clear hk); (try clear hi)))
     go_ret
     exact ⟨eqEnd, belNow⟩
    ·rw [if_neg c48] at H
     have c48b0 : (t362.toList == a1.toList) = false := beq_eq_false_iff_ne.mpr c48
     have c48b1 : (t362.toList != a1.toList) = true := bne_iff_ne.mpr c48
     obtain rfl := Option.some.inj H
     go_enter Tryd.func5, Tryd.ntmps5
     go_wp2_with (first | ((with_reducible refine gate_callee (f := 7) rfl ?_); refine goesL_ (some 19) rfl rfl Tryd.func7 (by kernel_rfl) rfl #[.slice A0 l0.length c0] rfl argsOk ?_; (with_reducible refine (journal_Encode.calls k _ _ l0 t333 (some q335) _ ?side1 ?side2 ?side3 A4.out).mono ?_); (case side1 => repeat (first | exact HR0.out | (with_reducible refine Kd.C_alloc ?_ _) | (with_reducible refine Kd.C_drewN ?_ _) | (with_reducible refine Kd.C_drew ?_))); (case side2 => exact HC0.out); (case side3 => exact Glob.below hGL belNow); rintro e w55 ⟨rfl, hb⟩; refine ⟨_, rfl, ?_⟩; have n0_ := Aside0.mk (below_step belNow hb); clear HB; have HB := n0_; clear n0_; (try clear hb); (try clear hb2); (try clear hk); (try clear hi); (try simp only [errW_none, errW_some])) | ((with_reducible refine gate_callee (f := 13) rfl ?_); refine goesL_ (some 63) rfl rfl Tryd.func13 (by kernel_rfl) rfl #[.string a1] rfl argsOk ?_; (with_reducible refine (journal_Decode.calls k a1 t357 none _ ?side1 A46.out).mono ?_); (case side1 => exact Glob.below hGL belNow); rintro e w56 ⟨v359, rfl, ho0, hb⟩; refine ⟨_, rfl, ?_⟩; have n0_ := Aside0.mk (Kd.R_lower ho0 (below_size belNow)); have n1_ := Aside0.mk (below_step belNow hb); clear HB; have HO360 := n0_; have HB := n1_; clear n0_ n1_; (try clear hb); (try clear hb2); (try clear hk); (try clear hi); (try clear ho0); (try simp only [errW_none, errW_some]); obtain ⟨Ao57, co57, eo57⟩ := Kd.R_slice HO360.out; subst eo57) | ((with_reducible refine gate_callee (f := 7) rfl ?_); refine goesL_ (some 76) rfl rfl Tryd.func7 (by kernel_rfl) rfl #[.slice Ao57 t357.length co57] rfl argsOk ?_; (with_reducible refine (journal_Encode.calls k _ _ t357 t362 none _ ?side1 ?side2 ?side3 A47.out).mono ?_); (case side1 => repeat (first | exact (Kd.R_reads' HO360.out).2.2 | (with_reducible refine Kd.C_alloc ?_ _) | (with_reducible refine Kd.C_drewN ?_ _) | (with_reducible refine Kd.C_drew ?_))); (case side2 => exact (Kd.R_reads' HO360.out).2.1); (case side3 => exact Glob.below hGL belNow); rintro e w58 ⟨rfl, hb⟩; refine ⟨_, rfl, ?_⟩; have n0_ := Aside0.mk (Kd.R_below (kdUp HO360.out) hb); have n1_ := Aside0.mk (below_step belNow hb); clear HO360; clear HB; have HO360 := n0_; have HB := n1_; clear n0_ n1_; (try clear hb); (try clear hb2); (try clear hk); (try clear hi); (try simp only [errW_none, errW_some])))
     go_ret
     exact ⟨eqEnd, belNow⟩
   ·have H1 : (some false) = some r := by rw [if_neg (show ¬ (some q364).isNone = true by simp)] at H; exact H
    clear H
    have H := H1
    clear H1
    try simp only [errW_none, errW_some]
    obtain rfl := Option.some.inj H
    go_enter Tryd.func5, Tryd.ntmps5
    go_wp2_with (first | ((with_reducible refine gate_callee (f := 7) rfl ?_); refine goesL_ (some 19) rfl rfl Tryd.func7 (by kernel_rfl) rfl #[.slice A0 l0.length c0] rfl argsOk ?_; (with_reducible refine (journal_Encode.calls k _ _ l0 t333 (some q335) _ ?side1 ?side2 ?side3 A4.out).mono ?_); (case side1 => repeat (first | exact HR0.out | (with_reducible refine Kd.C_alloc ?_ _) | (with_reducible refine Kd.C_drewN ?_ _) | (with_reducible refine Kd.C_drew ?_))); (case side2 => exact HC0.out); (case side3 => exact Glob.below hGL belNow); rintro e w59 ⟨rfl, hb⟩; refine ⟨_, rfl, ?_⟩; have n0_ := Aside0.mk (below_step belNow hb); clear HB; have HB := n0_; clear n0_; (try clear hb); (try clear hb2); (try clear hk); (try clear hi); (try simp only [errW_none, errW_some])) | ((with_reducible refine gate_callee (f := 13) rfl ?_); refine goesL_ (some 63) rfl rfl Tryd.func13 (by kernel_rfl) rfl #[.string a1] rfl argsOk ?_; (with_reducible refine (journal_Decode.calls k a1 t357 none _ ?side1 A46.out).mono ?_); (case side1 => exact Glob.below hGL belNow); rintro e w60 ⟨v359, rfl, ho0, hb⟩; refine ⟨_, rfl, ?_⟩; have n0_ := Aside0.mk (Kd.R_lower ho0 (below_size belNow)); have n1_ := Aside0.mk (below_step belNow hb); clear HB; have HO360 := n0_; have HB := n1_; clear n0_ n1_; (try clear hb); (try clear hb2); (try clear hk); (try clear hi); (try clear ho0); (try simp only [errW_none, errW_some]); obtain ⟨Ao61, co61, eo61⟩ := Kd.R_slice HO360.out; subst eo61) | ((with_reducible refine gate_callee (f := 7) rfl ?_); refine goesL_ (some 76) rfl rfl Tryd.func7 (by kernel_rfl) rfl #[.slice Ao61 t357.length co61] rfl argsOk ?_; (with_reducible refine (journal_Encode.calls k _ _ t357 t362 (some q364) _ ?side1 ?side2 ?side3 A47.out).mono ?_); (case side1 => repeat (first | exact (Kd.R_reads' HO360.out).2.2 | (with_reducible refine Kd.C_alloc ?_ _) | (with_reducible refine Kd.C_drewN ?_ _) | (with_reducible refine Kd.C_drew ?_))); (case side2 => exact (Kd.R_reads' HO360.out).2.1); (case side3 => exact Glob.below hGL belNow); rintro e w62 ⟨rfl, hb⟩; refine ⟨_, rfl, ?_⟩; have n0_ := Aside0.mk (Kd.R_below (kdUp HO360.out) hb); have n1_ := Aside0.mk (below_step belNow hb); clear HO360; clear HB; have HO360 := n0_; have HB := n1_; clear n0_ n1_; (try clear hb); (try clear hb2); (try clear hk); (try clear hi); (try simp only [errW_none, errW_some])))
    go_ret
    exact ⟨eqEnd, belNow⟩
  ·have H1 : (if (t357.length : Int) = 0 then ((selvagelaw27_sure.f k).bind fun t366 => (some t366)) else (some false)) = some r := by rw [if_neg (show ¬ (some q361).isNone = true by simp)] at H; exact H
   clear H
   have H := H1
   clear H1
   try simp only [errW_none, errW_some]
   by_cases c63 : (t357.length : Int) = 0
   ·rw [if_pos c63] at H
    have c63b0 : ((t357.length : Int) == 0) = true := beq_iff_eq.mpr c63
    have c63b1 : ((t357.length : Int) != 0) = false := bne_eq_false_iff_eq.mpr c63
    clear c63
    replace H := Option.bind_eq_some_iff.mp H
    obtain ⟨t366, A640, H⟩ := H
    replace H : (some t366) = some r := H
    have A64 := Aside0.mk A640
    clear A640
    obtain rfl := Option.some.inj H
    go_enter Tryd.func5, Tryd.ntmps5
    go_wp2_with (first | ((with_reducible refine gate_callee (f := 7) rfl ?_); refine goesL_ (some 19) rfl rfl Tryd.func7 (by kernel_rfl) rfl #[.slice A0 l0.length c0] rfl argsOk ?_; (with_reducible refine (journal_Encode.calls k _ _ l0 t333 (some q335) _ ?side1 ?side2 ?side3 A4.out).mono ?_); (case side1 => repeat (first | exact HR0.out | (with_reducible refine Kd.C_alloc ?_ _) | (with_reducible refine Kd.C_drewN ?_ _) | (with_reducible refine Kd.C_drew ?_))); (case side2 => exact HC0.out); (case side3 => exact Glob.below hGL belNow); rintro e w65 ⟨rfl, hb⟩; refine ⟨_, rfl, ?_⟩; have n0_ := Aside0.mk (below_step belNow hb); clear HB; have HB := n0_; clear n0_; (try clear hb); (try clear hb2); (try clear hk); (try clear hi); (try simp only [errW_none, errW_some])) | ((with_reducible refine gate_callee (f := 13) rfl ?_); refine goesL_ (some 63) rfl rfl Tryd.func13 (by kernel_rfl) rfl #[.string a1] rfl argsOk ?_; (with_reducible refine (journal_Decode.calls k a1 t357 (some q361) _ ?side1 A46.out).mono ?_); (case side1 => exact Glob.below hGL belNow); rintro e w66 ⟨v359, rfl, ho0, hb⟩; refine ⟨_, rfl, ?_⟩; have n0_ := Aside0.mk (Kd.R_lower ho0 (below_size belNow)); have n1_ := Aside0.mk (below_step belNow hb); clear HB; have HO360 := n0_; have HB := n1_; clear n0_ n1_; (try clear hb); (try clear hb2); (try clear hk); (try clear hi); (try clear ho0); (try simp only [errW_none, errW_some]); obtain ⟨Ao67, co67, eo67⟩ := Kd.R_slice HO360.out; subst eo67) | (go_at_call 12; (with_reducible refine (selvagelaw27_sure.calls k  t366 _ ?side1 A64.out).mono ?_); (case side1 => exact Glob.below hGL belNow); rintro e w68 ⟨rfl, hb⟩; have n0_ := Aside0.mk (Kd.R_below (kdUp HO360.out) hb); have n1_ := Aside0.mk (below_step belNow hb); clear HO360; clear HB; have HO360 := n0_; have HB := n1_; clear n0_ n1_; (try clear hb); (try clear hb2); (try clear hk); (try clear hi)))
    go_ret
    exact ⟨eqEnd, belNow⟩
   ·rw [if_neg c63] at H
    have c63b0 : ((t357.length : Int) == 0) = false := beq_eq_false_iff_ne.mpr c63
    have c63b1 : ((t357.length : Int) != 0) = true := bne_iff_ne.mpr c63
    have c63b2 : ¬ (t357 = []) := fun h_ => c63 (by rw [h_]; rfl)
    obtain rfl := Option.some.inj H
    go_enter Tryd.func5, Tryd.ntmps5
    go_wp2_with (first | ((with_reducible refine gate_callee (f := 7) rfl ?_); refine goesL_ (some 19) rfl rfl Tryd.func7 (by kernel_rfl) rfl #[.slice A0 l0.length c0] rfl argsOk ?_; (with_reducible refine (journal_Encode.calls k _ _ l0 t333 (some q335) _ ?side1 ?side2 ?side3 A4.out).mono ?_); (case side1 => repeat (first | exact HR0.out | (with_reducible refine Kd.C_alloc ?_ _) | (with_reducible refine Kd.C_drewN ?_ _) | (with_reducible refine Kd.C_drew ?_))); (case side2 => exact HC0.out); (case side3 => exact Glob.below hGL belNow); rintro e w69 ⟨rfl, hb⟩; refine ⟨_, rfl, ?_⟩; have n0_ := Aside0.mk (below_step belNow hb); clear HB; have HB := n0_; clear n0_; (try clear hb); (try clear hb2); (try clear hk); (try clear hi); (try simp only [errW_none, errW_some])) | ((with_reducible refine gate_callee (f := 13) rfl ?_); refine goesL_ (some 63) rfl rfl Tryd.func13 (by kernel_rfl) rfl #[.string a1] rfl argsOk ?_; (with_reducible refine (journal_Decode.calls k a1 t357 (some q361) _ ?side1 A46.out).mono ?_); (case side1 => exact Glob.below hGL belNow); rintro e w70 ⟨v359, rfl, ho0, hb⟩; refine ⟨_, rfl, ?_⟩; have n0_ := Aside0.mk (Kd.R_lower ho0 (below_size belNow)); have n1_ := Aside0.mk (below_step belNow hb); clear HB; have HO360 := n0_; have HB := n1_; clear n0_ n1_; (try clear hb); (try clear hb2); (try clear hk); (try clear hi); (try clear ho0); (try simp only [errW_none, errW_some]); obtain ⟨Ao71, co71, eo71⟩ := Kd.R_slice HO360.out; subst eo71))
    go_ret
    exact ⟨eqEnd, belNow⟩
end Go.Proofs.YtfempodohmhhlaaDoor.Pp
