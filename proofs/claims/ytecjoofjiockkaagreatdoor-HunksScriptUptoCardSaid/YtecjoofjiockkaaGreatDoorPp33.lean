import Derived.Test.YtecjoofjiockkaaGreatDoorESt
import Derived.Test.YtecjoofjiockkaaGreatDoorPp0
import Derived.Test.YtecjoofjiockkaaGreatDoorPp2
import Derived.Test.YtecjoofjiockkaaGreatDoorPp6
import Derived.Test.YtecjoofjiockkaaGreatDoorPp7
import Derived.Test.YtecjoofjiockkaaGreatDoorPp10
import Derived.Test.YtecjoofjiockkaaGreatDoorPp18
import Derived.Test.YtecjoofjiockkaaGreatDoorPp31
import Derived.Test.YtecjoofjiockkaaGreatDoorPp26
import Derived.Test.YtecjoofjiockkaaGreatDoorEScript
import Derived.Test.YtecjoofjiockkaaGreatDoorPp32
import Derived.Test.YtecjoofjiockkaaGreatDoorEReverse
set_option linter.unusedVariables false
set_option linter.unusedSimpArgs false
namespace Go.Proofs.YtecjoofjiockkaaGreatDoor.Pp
open Go.RowKit Go.Proofs.YtecjoofjiockkaaGreatDoor.Ext Go.Proofs.YtecjoofjiockkaaGreatDoorW.PrintWords Go.Proofs.YtecjoofjiockkaaGreatDoorW.PrintLast Go.Proofs.YtecjoofjiockkaaGreatDoorW.PrintMore
attribute [local go_sem] max2_int min2_int max_two min_two max_three min_three max_four min_four
attribute [local go_sem high] eqA49
mutual
def selvagelaw10_HunksScript.j0 : Nat → List (S29) → List (S49) → List (S49) → Bool → Option (Bool)
 | 0, _, _, _, _ => none
 | k + 1, x0, x7, x9, x43 => if x43 = true then (none) else (selvagelaw10_HunksScript.l0 k x0 x7 x9 0)
def selvagelaw10_HunksScript.l0 : Nat → List (S29) → List (S49) → List (S49) → Int → Option (Bool)
 | 0, _, _, _, _ => none
 | k + 1, x0, x7, x9, x11 => if x11 < (x7.length : Int) then (if 0 ≤ x11 then (if x11 < (x9.length : Int) then (if (!(((rd_T49 x7 x11).f0) == ((rd_T49 x9 x11).f0)) || (!(((rd_T49 x7 x11).f1) == ((rd_T49 x9 x11).f1)) || (!(((rd_T49 x7 x11).f2) == ((rd_T49 x9 x11).f2)) || (!(((rd_T49 x7 x11).f3) == ((rd_T49 x9 x11).f3)))))) = true then (none) else (selvagelaw10_HunksScript.l0 k x0 x7 x9 (wrap64 (x11 + 1)))) else (none)) else (none)) else (selvagelaw10_HunksScript.l1 k x0 0)
def selvagelaw10_HunksScript.l1 : Nat → List (S29) → Int → Option (Bool)
 | 0, _, _ => none
 | k + 1, x0, x12 => if x12 < (x0.length : Int) then (if 0 ≤ x12 then ((selvagelaw10_twin.f ((rd_T29 x0 x12).f0) ((rd_T29 x0 x12).f1) ((rd_T29 x0 x12).f2) ((rd_T29 x0 x12).f3) ((rd_T29 x0 x12).f4) ((rd_T29 x0 x12).f5)).bind fun bt751 => ((hunks_Sides.f k bt751.1 bt751.2.1 bt751.2.2.1 bt751.2.2.2.1 bt751.2.2.2.2.1 bt751.2.2.2.2.2).bind fun bt760 => ((selvageref10_Sides.f k ((rd_T29 x0 x12).f0) ((rd_T29 x0 x12).f1) ((rd_T29 x0 x12).f2) ((rd_T29 x0 x12).f3) ((rd_T29 x0 x12).f4) ((rd_T29 x0 x12).f5)).bind fun bt767 => ((selvagelaw10_sameTexts.f k bt760.1 bt767.1).bind fun t773 => (if t773 = true then ((selvagelaw10_sameTexts.f k bt760.2 bt767.2).bind fun t774 => (if t774 = true then ((hunks_Reverse.f bt751.1 bt751.2.1 bt751.2.2.1 bt751.2.2.2.1 bt751.2.2.2.2.1 bt751.2.2.2.2.2).bind fun bt775 => ((selvageref10_Reverse.f k ((rd_T29 x0 x12).f0) ((rd_T29 x0 x12).f1) ((rd_T29 x0 x12).f2) ((rd_T29 x0 x12).f3) ((rd_T29 x0 x12).f4) ((rd_T29 x0 x12).f5)).bind fun bt784 => ((selvagelaw10_same.f k bt775.1 bt775.2.1 bt775.2.2.1 bt775.2.2.2.1 bt775.2.2.2.2.1 bt775.2.2.2.2.2 bt784.1 bt784.2.1 bt784.2.2.1 bt784.2.2.2.1 bt784.2.2.2.2.1 bt784.2.2.2.2.2).bind fun t792 => (if t792 = true then ((selvagelaw10_same.f k bt751.1 bt751.2.1 bt751.2.2.1 bt751.2.2.2.1 bt751.2.2.2.2.1 bt751.2.2.2.2.2 ((rd_T29 x0 x12).f0) ((rd_T29 x0 x12).f1) ((rd_T29 x0 x12).f2) ((rd_T29 x0 x12).f3) ((rd_T29 x0 x12).f4) ((rd_T29 x0 x12).f5)).bind fun t794 => (if t794 = true then (selvagelaw10_HunksScript.l1 k x0 (wrap64 (x12 + 1))) else (none))) else (none))))) else (none))) else (none)))))) else (none)) else ((selvagelaw10_works.f k).bind fun t749 => (some t749))
end
def selvagelaw10_HunksScript.f (k : Nat) (l0 : List (S29)) (a1 : Int) (a2 : Int) : Option (Bool) := (selvagelaw10_twins.f k l0).bind fun t735 => ((hunks_Script.f k t735 a1 a2).bind fun bt738 => ((selvageref10_Script.f k l0 a1 a2).bind fun bt742 => (if (bt738.1.length : Int) = (bt742.1.length : Int) then ((selvagelaw10_num.f bt738.2).bind fun t746 => (selvagelaw10_HunksScript.j0 k l0 bt738.1 bt742.1 (t746 != bt742.2))) else (selvagelaw10_HunksScript.j0 k l0 bt738.1 bt742.1 true))))
def selvagelaw10_HunksScript.T8 : Bool × List (List Nat × List Nat) := (true, [([], []), ([], []), ([0, 1], [0, 1]), ([2], [2]), ([], []), ([], []), ([4, 5], [4, 5]), ([6], [6]), ([3, 7], [3, 7])])
def selvagelaw10_HunksScript.B8 : List Nat := [0, 0, 3, 7, 0, 0, 48, 112, 255]
theorem selvagelaw10_HunksScript.tab8 : rtab .any (opsOf Tryz.f7 8) = selvagelaw10_HunksScript.T8 := by kernel_rfl
theorem selvagelaw10_HunksScript.bits8 : waitsOk selvagelaw10_HunksScript.T8.2 selvagelaw10_HunksScript.B8 = true := by kernel_rfl
def selvagelaw10_HunksScript.T16 : Bool × List (List Nat × List Nat) := (true, [([], []), ([], []), ([0, 1], [0, 1]), ([2], [2]), ([3, 2], [3]), ([4], [4]), ([4], [4]), ([5, 6, 4, 4], [4, 5, 6]), ([7, 4], [4, 7]), ([4, 8], [4, 8]), ([9, 7], [9]), ([10], [10]), ([11, 10, 10], [10, 11]), ([10], [10]), ([10], [10]), ([13, 14, 10], [10, 13, 14]), ([15, 10], [10, 15]), ([16, 12, 10], [10, 16]), ([12, 17, 17, 10], [10, 12, 17]), ([18, 10], [10, 18]), ([10, 19], [10, 19]), ([20, 18], [20]), ([21], [21]), ([21], [21]), ([21], [21]), ([23, 24, 21], [21, 23, 24]), ([25, 21], [21, 25]), ([22, 26, 21, 21], [21, 22, 26]), ([27, 21], [21, 27]), ([21, 28], [21, 28])])
def selvagelaw10_HunksScript.B16 : List Nat := [0, 0, 3, 7, 15, 31, 31, 127, 255, 511, 1023, 2047, 4095, 2047, 2047, 26623, 59391, 131071, 262143, 524287, 1048575, 2097151, 4194303, 4194303, 4194303, 29360127, 62914559, 134217727, 268435455, 536870911]
theorem selvagelaw10_HunksScript.tab16 : rtab .any (opsOf Tryz.f7 16) = selvagelaw10_HunksScript.T16 := by kernel_rfl
theorem selvagelaw10_HunksScript.bits16 : waitsOk selvagelaw10_HunksScript.T16.2 selvagelaw10_HunksScript.B16 = true := by kernel_rfl
theorem selvagelaw10_HunksScript.j0_dead : ∀ k y0 y1 y2, selvagelaw10_HunksScript.j0 k y0 y1 y2 true = none
 | 0, _, _, _ => rfl
 | k + 1, _, _, _ => by simp [selvagelaw10_HunksScript.j0]
set_option maxHeartbeats 80000000 in
set_option maxRecDepth 100000 in
theorem selvagelaw10_HunksScript.calls (k : Nat) (A0 : Option Addr) (c0 : Nat) (l0 : List (S29)) (a1 : Int) (a2 : Int) (r : Bool) (w : World) (hr0 : Kd.C k29 w A0 l0.length l0) (hc0 : l0.length ≤ c0) (hGL : Glob w) (h : selvagelaw10_HunksScript.f k l0 a1 a2 = some r) :
  Calls Tryz.prog 7 #[.slice A0 l0.length c0, .int .i64 a1, .int .i64 a2] w fun e w' => e = .returned (.bool r) ∧ Below w.heap.size w w' := by
 have hu49 := Tryz.underlying49
 have hu29 := Tryz.underlying29
 have HR0 := Aside0.mk hr0
 have HC0 := Aside0.mk hc0
 clear hr0 hc0
 have HB := Aside0.mk (Below.refl w.heap.size w)
 have H := h
 clear h
 unfold selvagelaw10_HunksScript.f at H
 replace H := bdS H
 obtain ⟨t735, A4, H⟩ := H
 replace H := bdS H
 obtain ⟨⟨t738, t739⟩, A5, H⟩ := H
 replace H : ((selvageref10_Script.f k l0 a1 a2).bind fun bt742 => (if (t738.length : Int) = (bt742.1.length : Int) then ((selvagelaw10_num.f t739).bind fun t746 => (selvagelaw10_HunksScript.j0 k l0 t738 bt742.1 (t746 != bt742.2))) else (selvagelaw10_HunksScript.j0 k l0 t738 bt742.1 true))) = some r := H
 replace H := bdS H
 obtain ⟨⟨t742, t743⟩, A6, H⟩ := H
 replace H : (if (t738.length : Int) = (t742.length : Int) then ((selvagelaw10_num.f t739).bind fun t746 => (selvagelaw10_HunksScript.j0 k l0 t738 t742 (t746 != t743))) else (selvagelaw10_HunksScript.j0 k l0 t738 t742 true)) = some r := H
 have HC7 := Aside0.mk H
 clear H
 go_enter Tryz.func7, Tryz.ntmps7
 try simp only [List.append_eq, List.cons_append, List.nil_append]
 go_upto_region 3 with (first | ((with_reducible refine gate_callee (f := 14) rfl ?_); refine goL (some 20) Tryz.func14 #[.slice A0 l0.length c0] ?_; (with_reducible refine (selvagelaw10_twins.calls k _ _ l0 t735 _ ?side1 ?side2 A4.out).mono ?_); (case side1 => repeat (first | exact HR0.out | (with_reducible refine Kd.C_alloc ?_ _) | (with_reducible refine Kd.C_drewN ?_ _) | (with_reducible refine Kd.C_drew ?_))); (case side2 => exact HC0.out); rintro e w8 ⟨v736, rfl, ho0, hb⟩; refine ⟨_, rfl, ?_⟩; have HO737 := Aside0.mk (Kd.S_lower ho0 (below_size belNow)); replace HB := hbD HB hb; clear hb; (try clear ho0); obtain ⟨Ao9, co9, eo9⟩ := Kd.S_slice HO737.out; subst eo9) | ((with_reducible refine gate_callee (f := 29) rfl ?_); refine goL (some 23) Tryz.func29 #[.slice Ao9 t735.length co9, .int .i64 a1, .int .i64 a2] ?_; (with_reducible refine (hunks_Script.calls k _ _ t735 a1 a2 t738 t739 _ ?side1 ?side2 A5.out).mono ?_); (case side1 => repeat (first | exact (Kd.S_reads' HO737.out).2.2 | (with_reducible refine Kd.C_alloc ?_ _) | (with_reducible refine Kd.C_drewN ?_ _) | (with_reducible refine Kd.C_drew ?_))); (case side2 => exact (Kd.S_reads' HO737.out).2.1); rintro e w10 ⟨v740, rfl, ho0, hb⟩; refine ⟨_, rfl, ?_⟩; replace HO737 := Aside0.mk (Kd.S_below (by (with_reducible repeat (first | apply Kd.S_alloc | apply Kd.S_drewN | apply Kd.S_drew)); exact HO737.out) hb); have HO741 := Aside0.mk (Kd.R_lower ho0 (below_size belNow)); replace HB := hbD HB hb; clear hb; (try clear ho0); (try simp only [errW_none, errW_some])) | ((with_reducible refine gate_callee (f := 30) rfl ?_); refine goL (some 30) Tryz.func30 #[.slice A0 l0.length c0, .int .i64 a1, .int .i64 a2] ?_; (with_reducible refine (selvageref10_Script.calls k _ _ l0 a1 a2 t742 t743 _ ?side1 ?side2 A6.out).mono ?_); (case side1 => exact kcU HR0 HB); (case side2 => exact HC0.out); rintro e w11 ⟨v744, rfl, ho0, hb⟩; refine ⟨_, rfl, ?_⟩; replace HO737 := Aside0.mk (Kd.S_below (by (with_reducible repeat (first | apply Kd.S_alloc | apply Kd.S_drewN | apply Kd.S_drew)); exact HO737.out) hb); have HO745 := Aside0.mk (Kd.R_lower (Kd.R_new' ho0 (Kd.R_lt (kdUp HO741.out))) (below_size belNow)); replace HO741 := Aside0.mk (Kd.R_elder' (kdUp HO741.out) (Kd.R_base ho0) hb); replace HB := hbD HB hb; clear hb; (try clear ho0)))
 (try simp only [Act.put, List.setIfInBounds_toArray, List.set_cons_zero, List.set_cons_succ])
 go_cut [43] (fun v43 wc => ∃ (kq : Nat) (x43_6 : Bool), v43 = .bool x43_6 ∧ Aside0 (selvagelaw10_HunksScript.j0 kq l0 t738 t742 x43_6 = some r) ∧ Aside0 (kq ≤ k) ∧ Aside0 (Kd.R k49 49 wc w.heap.size (fun k_ => some k_ ≠ (v744 : Value).ownBlock) v740 t738) ∧ Aside0 (Kd.R k49 49 wc w.heap.size (fun k_ => some k_ ≠ (v740 : Value).ownBlock) v744 t742) ∧ Aside0 (Below w.heap.size w wc))
 case first =>
  have H := HC7.out
  clear HC7
  replace H := itEn H
  rcases H with ⟨c12, -, -, H⟩ | ⟨c12, c12b0, c12b1, H⟩
  ·first | exact absurd H (by simp) | (rw [selvagelaw10_HunksScript.j0_dead] at H; exact absurd H (by simp))
  have c12b2 : (t738.length == t742.length) = true := by first | simpa using c12 | (simp at c12 ⊢; omega)
  clear c12
  (first | rw [c12b0] | (simp only [i64_w, i32_w]; rw [c12b0]) | skip)
  replace H := bdS H
  obtain ⟨t746, A13, H⟩ := H
  have H' := Aside0.mk H
  clear H
  obtain ⟨Ao14, co14, eo14⟩ := Kd.R_slice HO741.out
  subst eo14
  obtain ⟨Ao15, co15, eo15⟩ := Kd.R_slice HO745.out
  subst eo15
  have CA13 := fun W (hG_ : Glob W) => selvagelaw10_num.calls t739 t746 W hG_ A13.out
  try simp only [errW_none, errW_some] at CA13
  go_wp2_with (first | (go_at_call 11; (with_reducible refine (CA13 _ ?side1).mono ?_); (case side1 => exact Glob.below hGL belNow); rintro e w16 ⟨rfl, hb⟩; replace HO737 := Aside0.mk (Kd.S_below (by (with_reducible repeat (first | apply Kd.S_alloc | apply Kd.S_drewN | apply Kd.S_drew)); exact HO737.out) hb); replace HO741 := Aside0.mk (Kd.R_below (kdUp HO741.out) hb); replace HO745 := Aside0.mk (Kd.R_below (kdUp HO745.out) hb); replace HB := hbD HB hb; clear hb))
  go_meet
  case rel => exact ⟨_, ((t746 != t743)), eqNow, H', ⟨by first | omega | exact Nat.le_refl _⟩, ⟨by (with_reducible repeat (first | apply Kd.R_alloc | apply Kd.R_drewN | apply Kd.R_drew)); exact Kd.R_mono HO741.out (fun _ hk => hk.2)⟩, ⟨by (with_reducible repeat (first | apply Kd.R_alloc | apply Kd.R_drewN | apply Kd.R_drew)); exact Kd.R_mono HO745.out (fun _ hk => hk.2)⟩, ⟨belNow⟩⟩
 case rest =>
  clear HC7
  obtain ⟨kq, x43_6, rfl, HA, HJ6, HO_7, HO_9, HB⟩ := hcut
  cases kq with
  | zero => exact absurd HA.out (by simp [selvagelaw10_HunksScript.j0])
  | succ kj6 =>
   have H := HA.out
   clear HA
   simp only [selvagelaw10_HunksScript.j0] at H
   by_cases c19 : x43_6 = true
   ·rw [if_pos c19] at H
    exact absurd H (by simp)
   replace c19 := Bool.eq_false_iff.mpr c19
   subst c19
   have H1 : (selvagelaw10_HunksScript.l0 kj6 l0 t738 t742 0) = some r := by rw [if_neg (show ¬ (false = true) by decide)] at H; exact H
   clear H
   have H := H1
   clear H1
   have H' := Aside0.mk H
   clear H
   go_wp2
   go_loopg [11] kj6 (fun kq v11 w' => ∃ (x11_2 : Int), v11 = .int .i64 x11_2 ∧ Aside0 (selvagelaw10_HunksScript.l0 kq l0 t738 t742 x11_2 = some r) ∧ Aside0 (kq ≤ kj6) ∧ Aside0 (Kd.R k49 49 w' w.heap.size (fun k_ => some k_ ≠ (v744 : Value).ownBlock) v740 t738) ∧ Aside0 (Kd.R k49 49 w' w.heap.size (fun k_ => some k_ ≠ (v740 : Value).ownBlock) v744 t742) ∧ Aside0 (Below w.heap.size w w'))
   case atStart => exact ⟨(0), eqNow, H', ⟨Nat.le_refl _⟩, ⟨kdMv HO_7⟩, ⟨kdMv HO_9⟩, ⟨belNow⟩⟩
   case round =>
    clear H'
    try clear c19
    obtain ⟨x11_2, rfl, HA, HK2, HO_7, HO_9, HB⟩ := hrel
    cases gk with
    | zero => exact absurd HA.out (by simp [selvagelaw10_HunksScript.l0])
    | succ k2 =>
     have H := HA.out
     clear HA
     simp only [selvagelaw10_HunksScript.l0] at H
     replace H := itL H
     rcases H with ⟨-, c20b0, H⟩ | ⟨-, c20b0, H⟩
     ·replace H := itLn H
      rcases H with ⟨_, _, H⟩ | ⟨-, c21b0, H⟩
      ·cases H
      replace H := itLn H
      rcases H with ⟨_, _, H⟩ | ⟨-, c22b0, H⟩
      ·cases H
      replace H := itE H
      rcases H with ⟨_, _, _, H⟩ | ⟨c23, -, -, H⟩
      ·cases H
      have c23b0 : (!(((rd_T49 t738 x11_2).f0) == ((rd_T49 t742 x11_2).f0)) || (!(((rd_T49 t738 x11_2).f1) == ((rd_T49 t742 x11_2).f1)) || (!(((rd_T49 t738 x11_2).f2) == ((rd_T49 t742 x11_2).f2)) || (!(((rd_T49 t738 x11_2).f3) == ((rd_T49 t742 x11_2).f3)))))) = false := by simpa using c23
      clear c23
      have H' := Aside0.mk H
      clear H
      obtain ⟨Ao27, co27, eo27⟩ := Kd.R_slice HO_7.out
      subst eo27
      try go_wp2
      replace HO_7 := Aside0.mk (Kd.R_drew HO_7.out)
      replace HO_9 := Aside0.mk (Kd.R_drew HO_9.out)
      replace HB := Aside0.mk (below_drew1 HB.out)
      have p747 : 0 ≤ (x11_2 : Int) := ofDec
      have q747 : x11_2 < (t738.length : Int) := ofDec
      obtain ⟨ad747, e747, hx747_0, hx747_1, hx747_2, hx747_3⟩ := at_T49 (Kd.R_reads' HO_7.out).2.2 x11_2 p747 q747
      cases e747
      replace p747 := eq_true p747
      replace q747 := eq_true q747
      obtain ⟨Ao29, co29, eo29⟩ := Kd.R_slice HO_9.out
      (first | subst eo29 | (injection eo29 with f1_ f2_ f3_; have f4_ := f1_.symm; have f5_ := f3_.symm; clear f1_ f2_ f3_; subst f4_; subst f5_))
      have p748 : 0 ≤ (x11_2 : Int) := ofDec
      have q748 : x11_2 < (t742.length : Int) := ofDec
      obtain ⟨ad748, e748, hx748_0, hx748_1, hx748_2, hx748_3⟩ := at_T49 (Kd.R_reads' HO_9.out).2.2 x11_2 p748 q748
      cases e748
      replace p748 := eq_true p748
      replace q748 := eq_true q748
      refine start_ (n := 9) (S := fun w' => w'.cell? (ad747.add ((x11_2).toNat * 4)) = some (.int .i64 ((rd_T49 t738 x11_2).f0)) ∧ w'.cell? ⟨(ad747.add ((x11_2).toNat * 4)).block, (ad747.add ((x11_2).toNat * 4)).off + 1, none⟩ = some (.int .i64 ((rd_T49 t738 x11_2).f1)) ∧ w'.cell? ⟨(ad747.add ((x11_2).toNat * 4)).block, (ad747.add ((x11_2).toNat * 4)).off + 2, none⟩ = some (.int .i64 ((rd_T49 t738 x11_2).f2)) ∧ w'.cell? ⟨(ad747.add ((x11_2).toNat * 4)).block, (ad747.add ((x11_2).toNat * 4)).off + 3, none⟩ = some (.int .i64 ((rd_T49 t738 x11_2).f3)) ∧ w'.cell? (ad748.add ((x11_2).toNat * 4)) = some (.int .i64 ((rd_T49 t742 x11_2).f0)) ∧ w'.cell? ⟨(ad748.add ((x11_2).toNat * 4)).block, (ad748.add ((x11_2).toNat * 4)).off + 1, none⟩ = some (.int .i64 ((rd_T49 t742 x11_2).f1)) ∧ w'.cell? ⟨(ad748.add ((x11_2).toNat * 4)).block, (ad748.add ((x11_2).toNat * 4)).off + 2, none⟩ = some (.int .i64 ((rd_T49 t742 x11_2).f2)) ∧ w'.cell? ⟨(ad748.add ((x11_2).toNat * 4)).block, (ad748.add ((x11_2).toNat * 4)).off + 3, none⟩ = some (.int .i64 ((rd_T49 t742 x11_2).f3))) (ds := []) (Array.replicate 9 false) (by kernel_rfl) rfl rfl ⟨hx747_0, hx747_1, hx747_2, hx747_3, hx748_0, hx748_1, hx748_2, hx748_3⟩ (fun hHeld => ?_); refine with_tabW selvagelaw10_HunksScript.tab8 selvagelaw10_HunksScript.bits8 (fun HT_ HW_ => ?_)
      generalize wr.drew = w28 at HO_7 HO_9 HB hx747_0 hx747_1 hx747_2 hx747_3 hx748_0 hx748_1 hx748_2 hx748_3 hHeld ⊢
      refine pureT 0 ?_
      refine pureT 1 ?_
      refine pureT 2 ?_
      refine pureT 4 ?_
      refine pureT 5 ?_
      refine pureT 6 ?_
      refine takeT 3 hHeld ?_
      refine takeT 7 hHeld ?_
      refine pureT 8 ?_
      refine done_ (done_of HT_.out (by kernel_rfl)) ?_
      try go_wp2
      go_roundg k2
      case measure => have := HJ6.out; have := HK2.out; omega
      case rel => exact ⟨(wrap64 (x11_2 + 1)), eqNow, H', ⟨by have := HJ6.out; have := HK2.out; omega⟩, ⟨kdMv HO_7⟩, ⟨kdMv HO_9⟩, ⟨belNow⟩⟩
     have H' := Aside0.mk H
     clear H
     obtain ⟨Ao30, co30, eo30⟩ := Kd.R_slice HO_7.out
     subst eo30
     go_wp2
     go_loopg [12] k2 (fun kq v12 w' => ∃ (x12_3 : Int), v12 = .int .i64 x12_3 ∧ Aside0 (selvagelaw10_HunksScript.l1 kq l0 x12_3 = some r) ∧ Aside0 (kq ≤ k2) ∧ Aside0 (Below w.heap.size w w'))
     case atStart => exact ⟨(0), eqNow, H', ⟨Nat.le_refl _⟩, ⟨belNow⟩⟩
     case round =>
      clear H'
      try clear c19
      try clear c20
      try clear c20b0
      obtain ⟨x12_3, rfl, HA, HK3, HB⟩ := hrel
      cases gk with
      | zero => exact absurd HA.out (by simp [selvagelaw10_HunksScript.l1])
      | succ k3 =>
       have H := HA.out
       clear HA
       simp only [selvagelaw10_HunksScript.l1] at H
       replace H := itLn H
       rcases H with ⟨-, c31b0, H⟩ | ⟨-, c31b0, H⟩
       ·replace H := bdS H
        obtain ⟨t749, A116, H⟩ := H
        obtain rfl := Option.some.inj H
        go_wp2_with (first | ((with_reducible refine gate_callee (f := 18) rfl ?_); refine goL (some 113) Tryz.func18 #[] ?_; (with_reducible refine (selvagelaw10_works.calls k3  t749 _ ?side1 A116.out).mono ?_); (case side1 => exact Glob.below hGL belNow); rintro e w117 ⟨rfl, hb⟩; refine ⟨_, rfl, ?_⟩; replace HB := hbD HB hb; clear hb))
        go_ret
        exact ⟨eqEnd, belNow⟩
       replace H := itLn H
       rcases H with ⟨_, _, H⟩ | ⟨-, c32b0, H⟩
       ·cases H
       replace H := bdS H
       obtain ⟨⟨t751, t752, t753, t754, t755, t756⟩, A33, H⟩ := H
       replace H : ((hunks_Sides.f k3 t751 t752 t753 t754 t755 t756).bind fun bt760 => ((selvageref10_Sides.f k3 ((rd_T29 l0 x12_3).f0) ((rd_T29 l0 x12_3).f1) ((rd_T29 l0 x12_3).f2) ((rd_T29 l0 x12_3).f3) ((rd_T29 l0 x12_3).f4) ((rd_T29 l0 x12_3).f5)).bind fun bt767 => ((selvagelaw10_sameTexts.f k3 bt760.1 bt767.1).bind fun t773 => (if t773 = true then ((selvagelaw10_sameTexts.f k3 bt760.2 bt767.2).bind fun t774 => (if t774 = true then ((hunks_Reverse.f t751 t752 t753 t754 t755 t756).bind fun bt775 => ((selvageref10_Reverse.f k3 ((rd_T29 l0 x12_3).f0) ((rd_T29 l0 x12_3).f1) ((rd_T29 l0 x12_3).f2) ((rd_T29 l0 x12_3).f3) ((rd_T29 l0 x12_3).f4) ((rd_T29 l0 x12_3).f5)).bind fun bt784 => ((selvagelaw10_same.f k3 bt775.1 bt775.2.1 bt775.2.2.1 bt775.2.2.2.1 bt775.2.2.2.2.1 bt775.2.2.2.2.2 bt784.1 bt784.2.1 bt784.2.2.1 bt784.2.2.2.1 bt784.2.2.2.2.1 bt784.2.2.2.2.2).bind fun t792 => (if t792 = true then ((selvagelaw10_same.f k3 t751 t752 t753 t754 t755 t756 ((rd_T29 l0 x12_3).f0) ((rd_T29 l0 x12_3).f1) ((rd_T29 l0 x12_3).f2) ((rd_T29 l0 x12_3).f3) ((rd_T29 l0 x12_3).f4) ((rd_T29 l0 x12_3).f5)).bind fun t794 => (if t794 = true then (selvagelaw10_HunksScript.l1 k3 l0 (wrap64 (x12_3 + 1))) else (none))) else (none))))) else (none))) else (none))))) = some r := H
       replace H := bdS H
       obtain ⟨⟨t760, t763⟩, A34, H⟩ := H
       replace H : ((selvageref10_Sides.f k3 ((rd_T29 l0 x12_3).f0) ((rd_T29 l0 x12_3).f1) ((rd_T29 l0 x12_3).f2) ((rd_T29 l0 x12_3).f3) ((rd_T29 l0 x12_3).f4) ((rd_T29 l0 x12_3).f5)).bind fun bt767 => ((selvagelaw10_sameTexts.f k3 t760 bt767.1).bind fun t773 => (if t773 = true then ((selvagelaw10_sameTexts.f k3 t763 bt767.2).bind fun t774 => (if t774 = true then ((hunks_Reverse.f t751 t752 t753 t754 t755 t756).bind fun bt775 => ((selvageref10_Reverse.f k3 ((rd_T29 l0 x12_3).f0) ((rd_T29 l0 x12_3).f1) ((rd_T29 l0 x12_3).f2) ((rd_T29 l0 x12_3).f3) ((rd_T29 l0 x12_3).f4) ((rd_T29 l0 x12_3).f5)).bind fun bt784 => ((selvagelaw10_same.f k3 bt775.1 bt775.2.1 bt775.2.2.1 bt775.2.2.2.1 bt775.2.2.2.2.1 bt775.2.2.2.2.2 bt784.1 bt784.2.1 bt784.2.2.1 bt784.2.2.2.1 bt784.2.2.2.2.1 bt784.2.2.2.2.2).bind fun t792 => (if t792 = true then ((selvagelaw10_same.f k3 t751 t752 t753 t754 t755 t756 ((rd_T29 l0 x12_3).f0) ((rd_T29 l0 x12_3).f1) ((rd_T29 l0 x12_3).f2) ((rd_T29 l0 x12_3).f3) ((rd_T29 l0 x12_3).f4) ((rd_T29 l0 x12_3).f5)).bind fun t794 => (if t794 = true then (selvagelaw10_HunksScript.l1 k3 l0 (wrap64 (x12_3 + 1))) else (none))) else (none))))) else (none))) else (none)))) = some r := H
       replace H := bdS H
       obtain ⟨⟨t767, t770⟩, A35, H⟩ := H
       replace H : ((selvagelaw10_sameTexts.f k3 t760 t767).bind fun t773 => (if t773 = true then ((selvagelaw10_sameTexts.f k3 t763 t770).bind fun t774 => (if t774 = true then ((hunks_Reverse.f t751 t752 t753 t754 t755 t756).bind fun bt775 => ((selvageref10_Reverse.f k3 ((rd_T29 l0 x12_3).f0) ((rd_T29 l0 x12_3).f1) ((rd_T29 l0 x12_3).f2) ((rd_T29 l0 x12_3).f3) ((rd_T29 l0 x12_3).f4) ((rd_T29 l0 x12_3).f5)).bind fun bt784 => ((selvagelaw10_same.f k3 bt775.1 bt775.2.1 bt775.2.2.1 bt775.2.2.2.1 bt775.2.2.2.2.1 bt775.2.2.2.2.2 bt784.1 bt784.2.1 bt784.2.2.1 bt784.2.2.2.1 bt784.2.2.2.2.1 bt784.2.2.2.2.2).bind fun t792 => (if t792 = true then ((selvagelaw10_same.f k3 t751 t752 t753 t754 t755 t756 ((rd_T29 l0 x12_3).f0) ((rd_T29 l0 x12_3).f1) ((rd_T29 l0 x12_3).f2) ((rd_T29 l0 x12_3).f3) ((rd_T29 l0 x12_3).f4) ((rd_T29 l0 x12_3).f5)).bind fun t794 => (if t794 = true then (selvagelaw10_HunksScript.l1 k3 l0 (wrap64 (x12_3 + 1))) else (none))) else (none))))) else (none))) else (none))) = some r := H
       replace H := bdS H
       obtain ⟨t773, A36, H⟩ := H
       by_cases c37 : t773 = true
       rotate_left
       ·rw [if_neg c37] at H
        exact absurd H (by simp)
       subst c37
       have H1 : ((selvagelaw10_sameTexts.f k3 t763 t770).bind fun t774 => (if t774 = true then ((hunks_Reverse.f t751 t752 t753 t754 t755 t756).bind fun bt775 => ((selvageref10_Reverse.f k3 ((rd_T29 l0 x12_3).f0) ((rd_T29 l0 x12_3).f1) ((rd_T29 l0 x12_3).f2) ((rd_T29 l0 x12_3).f3) ((rd_T29 l0 x12_3).f4) ((rd_T29 l0 x12_3).f5)).bind fun bt784 => ((selvagelaw10_same.f k3 bt775.1 bt775.2.1 bt775.2.2.1 bt775.2.2.2.1 bt775.2.2.2.2.1 bt775.2.2.2.2.2 bt784.1 bt784.2.1 bt784.2.2.1 bt784.2.2.2.1 bt784.2.2.2.2.1 bt784.2.2.2.2.2).bind fun t792 => (if t792 = true then ((selvagelaw10_same.f k3 t751 t752 t753 t754 t755 t756 ((rd_T29 l0 x12_3).f0) ((rd_T29 l0 x12_3).f1) ((rd_T29 l0 x12_3).f2) ((rd_T29 l0 x12_3).f3) ((rd_T29 l0 x12_3).f4) ((rd_T29 l0 x12_3).f5)).bind fun t794 => (if t794 = true then (selvagelaw10_HunksScript.l1 k3 l0 (wrap64 (x12_3 + 1))) else (none))) else (none))))) else (none))) = some r := by rw [if_pos rfl] at H; exact H
       clear H
       have H := H1
       clear H1
       replace H := bdS H
       obtain ⟨t774, A38, H⟩ := H
       by_cases c39 : t774 = true
       rotate_left
       ·rw [if_neg c39] at H
        exact absurd H (by simp)
       subst c39
       have H1 : ((hunks_Reverse.f t751 t752 t753 t754 t755 t756).bind fun bt775 => ((selvageref10_Reverse.f k3 ((rd_T29 l0 x12_3).f0) ((rd_T29 l0 x12_3).f1) ((rd_T29 l0 x12_3).f2) ((rd_T29 l0 x12_3).f3) ((rd_T29 l0 x12_3).f4) ((rd_T29 l0 x12_3).f5)).bind fun bt784 => ((selvagelaw10_same.f k3 bt775.1 bt775.2.1 bt775.2.2.1 bt775.2.2.2.1 bt775.2.2.2.2.1 bt775.2.2.2.2.2 bt784.1 bt784.2.1 bt784.2.2.1 bt784.2.2.2.1 bt784.2.2.2.2.1 bt784.2.2.2.2.2).bind fun t792 => (if t792 = true then ((selvagelaw10_same.f k3 t751 t752 t753 t754 t755 t756 ((rd_T29 l0 x12_3).f0) ((rd_T29 l0 x12_3).f1) ((rd_T29 l0 x12_3).f2) ((rd_T29 l0 x12_3).f3) ((rd_T29 l0 x12_3).f4) ((rd_T29 l0 x12_3).f5)).bind fun t794 => (if t794 = true then (selvagelaw10_HunksScript.l1 k3 l0 (wrap64 (x12_3 + 1))) else (none))) else (none))))) = some r := by rw [if_pos rfl] at H; exact H
       clear H
       have H := H1
       clear H1
       replace H := bdS H
       obtain ⟨⟨t775, t776, t777, t778, t779, t780⟩, A40, H⟩ := H
       replace H : ((selvageref10_Reverse.f k3 ((rd_T29 l0 x12_3).f0) ((rd_T29 l0 x12_3).f1) ((rd_T29 l0 x12_3).f2) ((rd_T29 l0 x12_3).f3) ((rd_T29 l0 x12_3).f4) ((rd_T29 l0 x12_3).f5)).bind fun bt784 => ((selvagelaw10_same.f k3 t775 t776 t777 t778 t779 t780 bt784.1 bt784.2.1 bt784.2.2.1 bt784.2.2.2.1 bt784.2.2.2.2.1 bt784.2.2.2.2.2).bind fun t792 => (if t792 = true then ((selvagelaw10_same.f k3 t751 t752 t753 t754 t755 t756 ((rd_T29 l0 x12_3).f0) ((rd_T29 l0 x12_3).f1) ((rd_T29 l0 x12_3).f2) ((rd_T29 l0 x12_3).f3) ((rd_T29 l0 x12_3).f4) ((rd_T29 l0 x12_3).f5)).bind fun t794 => (if t794 = true then (selvagelaw10_HunksScript.l1 k3 l0 (wrap64 (x12_3 + 1))) else (none))) else (none)))) = some r := H
       replace H := bdS H
       obtain ⟨⟨t784, t785, t786, t787, t788, t789⟩, A41, H⟩ := H
       replace H : ((selvagelaw10_same.f k3 t775 t776 t777 t778 t779 t780 t784 t785 t786 t787 t788 t789).bind fun t792 => (if t792 = true then ((selvagelaw10_same.f k3 t751 t752 t753 t754 t755 t756 ((rd_T29 l0 x12_3).f0) ((rd_T29 l0 x12_3).f1) ((rd_T29 l0 x12_3).f2) ((rd_T29 l0 x12_3).f3) ((rd_T29 l0 x12_3).f4) ((rd_T29 l0 x12_3).f5)).bind fun t794 => (if t794 = true then (selvagelaw10_HunksScript.l1 k3 l0 (wrap64 (x12_3 + 1))) else (none))) else (none))) = some r := H
       replace H := bdS H
       obtain ⟨t792, A42, H⟩ := H
       by_cases c43 : t792 = true
       rotate_left
       ·rw [if_neg c43] at H
        exact absurd H (by simp)
       subst c43
       have H1 : ((selvagelaw10_same.f k3 t751 t752 t753 t754 t755 t756 ((rd_T29 l0 x12_3).f0) ((rd_T29 l0 x12_3).f1) ((rd_T29 l0 x12_3).f2) ((rd_T29 l0 x12_3).f3) ((rd_T29 l0 x12_3).f4) ((rd_T29 l0 x12_3).f5)).bind fun t794 => (if t794 = true then (selvagelaw10_HunksScript.l1 k3 l0 (wrap64 (x12_3 + 1))) else (none))) = some r := by rw [if_pos rfl] at H; exact H
       clear H
       have H := H1
       clear H1
       replace H := bdS H
       obtain ⟨t794, A44, H⟩ := H
       by_cases c45 : t794 = true
       rotate_left
       ·rw [if_neg c45] at H
        exact absurd H (by simp)
       subst c45
       have H1 : (selvagelaw10_HunksScript.l1 k3 l0 (wrap64 (x12_3 + 1))) = some r := by rw [if_pos rfl] at H; exact H
       clear H
       have H := H1
       clear H1
       have H' := Aside0.mk H
       clear H
       obtain ⟨ad750, A750_5, c750_5, rfl, hx750_0, hx750_1, hx750_2, hx750_3, hx750_4, hx750_5, HC750_5, HR750_5, p750, q750⟩ := atU_T29 HR0 HB x12_3
       try go_wp2_with (first | ((with_reducible refine gate_callee (f := 25) rfl ?_); refine goL (some 69) Tryz.func25 #[.agg #[.int .i64 ((rd_T29 l0 x12_3).f0), .int .i64 ((rd_T29 l0 x12_3).f1), .int .i64 ((rd_T29 l0 x12_3).f2), .int .i64 ((rd_T29 l0 x12_3).f3), .string ((rd_T29 l0 x12_3).f4), .slice A750_5 ((rd_T29 l0 x12_3).f5).length c750_5]] ?_; (with_reducible refine (selvagelaw10_twin.calls ((rd_T29 l0 x12_3).f0) ((rd_T29 l0 x12_3).f1) ((rd_T29 l0 x12_3).f2) ((rd_T29 l0 x12_3).f3) ((rd_T29 l0 x12_3).f4) _ _ ((rd_T29 l0 x12_3).f5) t751 t752 t753 t754 t755 t756 _ ?side1 ?side2 A33.out).mono ?_); (case side1 => exact kcU HR750_5 HB); (case side2 => exact HC750_5.out); rintro e w46 ⟨v757, rfl, ho0, hb⟩; refine ⟨_, rfl, ?_⟩; have HO758 := Aside0.mk (Kd.R_lower ho0 (below_size belNow)); replace HB := hbD HB hb; clear hb; (try clear ho0)) | ((with_reducible refine gate_dst (N := 13) rfl ?_); refine boxEv (N := 13) #[.int .i64 0, .int .i64 0, .int .i64 0, .int .i64 0, .string (⟨#[]⟩ : ByteArray), .slice none 0 0] 29 ?_; intro gb759 hg w47 hbox hb; replace HO758 := Aside0.mk (Kd.R_below (kdUp HO758.out) hb); have BK759 := Aside0.mk hbox; have GW759 := gwN HB hg; have GE759 := GW759; replace HB := hbD HB hb; clear hb hbox hg; obtain ⟨hcz48_0, hcz48_1, hcz48_2, hcz48_3, hcz48_4, hcz48_5, hfz48_0, hfz48_1, hfz48_2, hfz48_3, hfz48_4, hfz48_5⟩ := bcf6 (W := w47) BK759; obtain ⟨Ao49, co49, eo49⟩ := Kd.R_slice HO758.out; subst eo49) | ((with_reducible refine gate_callee (f := 31) rfl ?_); refine goL (some 72) Tryz.func31 #[.agg #[.int .i64 t751, .int .i64 t752, .int .i64 t753, .int .i64 t754, .string t755, .slice Ao49 t756.length co49]] ?_; (with_reducible refine (hunks_Sides.calls k3 t751 t752 t753 t754 t755 _ _ t756 t760 t763 _ ?side1 ?side2 A34.out).mono ?_); (case side1 => refine (Kd.R_reads' (e := 53) (base := w.heap.size) (ok := fun k_ => True) (n := t756.length) (c := co49) ?_).2.2; exact (by (with_reducible repeat (first | apply Kd.R_alloc | apply Kd.R_drewN | apply Kd.R_drew)); exact (Kd.R_mono (Kd.R_far (p := ⟨gb759, 5, none⟩) (Kd.R_far (p := ⟨gb759, 4, none⟩) (Kd.R_far (p := ⟨gb759, 3, none⟩) (Kd.R_far (p := ⟨gb759, 2, none⟩) (Kd.R_far (p := ⟨gb759, 1, none⟩) (Kd.R_far (p := ⟨gb759, 0, none⟩) (Kd.R_types HO758.out BK759.out (by decide)) (fun _ hk => hk.2) (.int .i64 t751)) (fun _ hk => hk.2) (.int .i64 t752)) (fun _ hk => hk.2) (.int .i64 t753)) (fun _ hk => hk.2) (.int .i64 t754)) (fun _ hk => hk.2) (.string t755)) (fun _ hk => hk.2) (.slice Ao49 t756.length co49)) (fun _ h_ => h_.1)))); (case side2 => exact (Kd.R_reads' HO758.out).2.1); rintro e w50 ⟨v761, v764, rfl, ho0, ho1, hb⟩; refine ⟨_, rfl, ?_⟩; replace HO758 := Aside0.mk (Kd.R_below (by (with_reducible repeat (first | apply Kd.R_alloc | apply Kd.R_drewN | apply Kd.R_drew)); exact (Kd.R_mono (Kd.R_far (p := ⟨gb759, 5, none⟩) (Kd.R_far (p := ⟨gb759, 4, none⟩) (Kd.R_far (p := ⟨gb759, 3, none⟩) (Kd.R_far (p := ⟨gb759, 2, none⟩) (Kd.R_far (p := ⟨gb759, 1, none⟩) (Kd.R_far (p := ⟨gb759, 0, none⟩) (Kd.R_types HO758.out BK759.out (by decide)) (fun _ hk => hk.2) (.int .i64 t751)) (fun _ hk => hk.2) (.int .i64 t752)) (fun _ hk => hk.2) (.int .i64 t753)) (fun _ hk => hk.2) (.int .i64 t754)) (fun _ hk => hk.2) (.string t755)) (fun _ hk => hk.2) (.slice Ao49 t756.length co49)) (fun _ h_ => h_.1))) hb); have HO762 := Aside0.mk (Kd.R_lower ho0 (below_size (belPut))); have HO765 := Aside0.mk (Kd.R_lower ho1 (below_size (belPut))); replace BK759 := bkD BK759 hb; replace HB := hbD HB hb; clear hb; (try clear ho0); (try clear ho1); have p766 : 0 ≤ (x12_3 : Int) := ofDec; have q766 : x12_3 < (l0.length : Int) := ofDec; obtain ⟨ad766, A766_5, c766_5, e766, hx766_0, hx766_1, hx766_2, hx766_3, hx766_4, hx766_5, hl766_5, hi766_5⟩ := at_T29 HR0.out x12_3 p766 q766; obtain rfl : ad750 = ad766 := (by injection e766); replace hx766_0 := (HB.out.cell (World.block_lt_of_cell? w _ hx766_0)).trans hx766_0; replace hx766_1 := (HB.out.cell (World.block_lt_of_cell? w _ hx766_1)).trans hx766_1; replace hx766_2 := (HB.out.cell (World.block_lt_of_cell? w _ hx766_2)).trans hx766_2; replace hx766_3 := (HB.out.cell (World.block_lt_of_cell? w _ hx766_3)).trans hx766_3; replace hx766_4 := (HB.out.cell (World.block_lt_of_cell? w _ hx766_4)).trans hx766_4; replace hx766_5 := (HB.out.cell (World.block_lt_of_cell? w _ hx766_5)).trans hx766_5; have HR766_5 := Aside0.mk hi766_5; have HC766_5 := Aside0.mk hl766_5; clear hi766_5 hl766_5; replace p766 := eq_true p766; replace q766 := eq_true q766) | ((with_reducible refine gate_callee (f := 32) rfl ?_); refine goL (some 80) Tryz.func32 #[.agg #[.int .i64 ((rd_T29 l0 x12_3).f0), .int .i64 ((rd_T29 l0 x12_3).f1), .int .i64 ((rd_T29 l0 x12_3).f2), .int .i64 ((rd_T29 l0 x12_3).f3), .string ((rd_T29 l0 x12_3).f4), .slice A766_5 ((rd_T29 l0 x12_3).f5).length c766_5]] ?_; (with_reducible refine (selvageref10_Sides.calls k3 ((rd_T29 l0 x12_3).f0) ((rd_T29 l0 x12_3).f1) ((rd_T29 l0 x12_3).f2) ((rd_T29 l0 x12_3).f3) ((rd_T29 l0 x12_3).f4) _ _ ((rd_T29 l0 x12_3).f5) t767 t770 _ ?side1 ?side2 A35.out).mono ?_); (case side1 => exact kcU HR766_5 HB); (case side2 => exact HC766_5.out); rintro e w51 ⟨v768, v771, rfl, ho0, ho1, hb⟩; refine ⟨_, rfl, ?_⟩; replace HO758 := Aside0.mk (Kd.R_below (kdUp HO758.out) hb); have HO769 := Aside0.mk (Kd.R_lower (Kd.R_new' (Kd.R_new' ho0 (Kd.R_lt (kdUp HO762.out))) (Kd.R_lt (kdUp HO765.out))) (below_size (belPut))); have HO772 := Aside0.mk (Kd.R_lower (Kd.R_new' (Kd.R_new' ho1 (Kd.R_lt (kdUp HO762.out))) (Kd.R_lt (kdUp HO765.out))) (below_size (belPut))); replace HO762 := Aside0.mk (Kd.R_mono (Kd.R_told (Kd.R_told (Kd.R_old (kdUp HO762.out) hb) (Kd.R_base ho0)) (Kd.R_base ho1)) (fun _ h_ => h_.1)); replace HO765 := Aside0.mk (Kd.R_mono (Kd.R_told (Kd.R_told (Kd.R_old (kdUp HO765.out) hb) (Kd.R_base ho0)) (Kd.R_base ho1)) (fun _ h_ => h_.1)); replace BK759 := bkD BK759 hb; replace HB := hbD HB hb; clear hb; (try clear ho0); (try clear ho1)))
       replace HO758 := Aside0.mk (Kd.R_drew HO758.out)
       replace HO762 := Aside0.mk (Kd.R_drew HO762.out)
       replace HO765 := Aside0.mk (Kd.R_drew HO765.out)
       replace HO769 := Aside0.mk (Kd.R_drew HO769.out)
       replace HO772 := Aside0.mk (Kd.R_drew HO772.out)
       replace BK759 := Aside0.mk (blk_drew BK759.out)
       replace HB := Aside0.mk (below_drew1 HB.out)
       obtain ⟨Ao53, co53, eo53⟩ := Kd.R_slice HO762.out
       (first | subst eo53 | (injection eo53 with f1_ f2_ f3_; have f4_ := f1_.symm; have f5_ := f3_.symm; clear f1_ f2_ f3_; subst f4_; subst f5_))
       obtain ⟨Ao54, co54, eo54⟩ := Kd.R_slice HO769.out
       (first | subst eo54 | (injection eo54 with f1_ f2_ f3_; have f4_ := f1_.symm; have f5_ := f3_.symm; clear f1_ f2_ f3_; subst f4_; subst f5_))
       have p783 : 0 ≤ (x12_3 : Int) := ofDec
       have q783 : x12_3 < (l0.length : Int) := ofDec
       obtain ⟨ad783, A783_5, c783_5, e783, hx783_0, hx783_1, hx783_2, hx783_3, hx783_4, hx783_5, hl783_5, hi783_5⟩ := at_T29 HR0.out x12_3 p783 q783
       have hw783_5 := hx783_5
       have hw783_4 := hx783_4
       have hw783_3 := hx783_3
       have hw783_2 := hx783_2
       have hw783_1 := hx783_1
       have hw783_0 := hx783_0
       obtain rfl : ad750 = ad783 := (by injection e783)
       replace hx783_0 := cUp HB.out hx783_0
       replace hx783_1 := cUp HB.out hx783_1
       replace hx783_2 := cUp HB.out hx783_2
       replace hx783_3 := cUp HB.out hx783_3
       replace hx783_4 := cUp HB.out hx783_4
       replace hx783_5 := cUp HB.out hx783_5
       have HR783_5 := Aside0.mk hi783_5
       have HC783_5 := Aside0.mk hl783_5
       clear hi783_5 hl783_5
       replace p783 := eq_true p783
       replace q783 := eq_true q783
       have p793 : 0 ≤ (x12_3 : Int) := ofDec
       have q793 : x12_3 < (l0.length : Int) := ofDec
       obtain ⟨ad793, A793_5, c793_5, e793, hx793_0, hx793_1, hx793_2, hx793_3, hx793_4, hx793_5, hl793_5, hi793_5⟩ := at_T29 HR0.out x12_3 p793 q793
       have hw793_5 := hx793_5
       have hw793_4 := hx793_4
       have hw793_3 := hx793_3
       have hw793_2 := hx793_2
       have hw793_1 := hx793_1
       have hw793_0 := hx793_0
       obtain rfl : ad750 = ad793 := (by injection e793)
       obtain ⟨rfl, rfl⟩ : A783_5 = A793_5 ∧ c783_5 = c793_5 := by
        have e_ := hw783_5.symm.trans hw793_5
        simp only [Option.some.injEq, Value.slice.injEq] at e_
        exact ⟨e_.1, e_.2.2⟩
       replace hx793_0 := cUp HB.out hx793_0
       replace hx793_1 := cUp HB.out hx793_1
       replace hx793_2 := cUp HB.out hx793_2
       replace hx793_3 := cUp HB.out hx793_3
       replace hx793_4 := cUp HB.out hx793_4
       replace hx793_5 := cUp HB.out hx793_5
       have HR793_5 := Aside0.mk hi793_5
       have HC793_5 := Aside0.mk hl793_5
       clear hi793_5 hl793_5
       replace p793 := eq_true p793
       replace q793 := eq_true q793
       refine start_ (n := 30) (S := fun w' => w'.cell? ⟨gb759, 0, none⟩ = some (.int .i64 t751) ∧ w'.cell? ⟨gb759, 1, none⟩ = some (.int .i64 t752) ∧ w'.cell? ⟨gb759, 2, none⟩ = some (.int .i64 t753) ∧ w'.cell? ⟨gb759, 3, none⟩ = some (.int .i64 t754) ∧ w'.cell? ⟨gb759, 4, none⟩ = some (.string t755) ∧ w'.cell? ⟨gb759, 5, none⟩ = some (.slice Ao49 t756.length co49) ∧ w'.cell? (ad750.add ((x12_3).toNat * 6)) = some (.int .i64 ((rd_T29 l0 x12_3).f0)) ∧ w'.cell? ⟨(ad750.add ((x12_3).toNat * 6)).block, (ad750.add ((x12_3).toNat * 6)).off + 1, none⟩ = some (.int .i64 ((rd_T29 l0 x12_3).f1)) ∧ w'.cell? ⟨(ad750.add ((x12_3).toNat * 6)).block, (ad750.add ((x12_3).toNat * 6)).off + 2, none⟩ = some (.int .i64 ((rd_T29 l0 x12_3).f2)) ∧ w'.cell? ⟨(ad750.add ((x12_3).toNat * 6)).block, (ad750.add ((x12_3).toNat * 6)).off + 3, none⟩ = some (.int .i64 ((rd_T29 l0 x12_3).f3)) ∧ w'.cell? ⟨(ad750.add ((x12_3).toNat * 6)).block, (ad750.add ((x12_3).toNat * 6)).off + 4, none⟩ = some (.string ((rd_T29 l0 x12_3).f4)) ∧ w'.cell? ⟨(ad750.add ((x12_3).toNat * 6)).block, (ad750.add ((x12_3).toNat * 6)).off + 5, none⟩ = some (.slice A783_5 ((rd_T29 l0 x12_3).f5).length c783_5) ∧ w'.cell? (ad750.add ((x12_3).toNat * 6)) = some (.int .i64 ((rd_T29 l0 x12_3).f0)) ∧ w'.cell? ⟨(ad750.add ((x12_3).toNat * 6)).block, (ad750.add ((x12_3).toNat * 6)).off + 1, none⟩ = some (.int .i64 ((rd_T29 l0 x12_3).f1)) ∧ w'.cell? ⟨(ad750.add ((x12_3).toNat * 6)).block, (ad750.add ((x12_3).toNat * 6)).off + 2, none⟩ = some (.int .i64 ((rd_T29 l0 x12_3).f2)) ∧ w'.cell? ⟨(ad750.add ((x12_3).toNat * 6)).block, (ad750.add ((x12_3).toNat * 6)).off + 3, none⟩ = some (.int .i64 ((rd_T29 l0 x12_3).f3)) ∧ w'.cell? ⟨(ad750.add ((x12_3).toNat * 6)).block, (ad750.add ((x12_3).toNat * 6)).off + 4, none⟩ = some (.string ((rd_T29 l0 x12_3).f4)) ∧ w'.cell? ⟨(ad750.add ((x12_3).toNat * 6)).block, (ad750.add ((x12_3).toNat * 6)).off + 5, none⟩ = some (.slice A783_5 ((rd_T29 l0 x12_3).f5).length c783_5)) (ds := []) (Array.replicate 30 false) (by kernel_rfl) rfl rfl ⟨bc BK759 0, bc BK759 1, bc BK759 2, bc BK759 3, bc BK759 4, bc BK759 5, (cUp HB.out hw783_0 :), (cUp HB.out hw783_1 :), (cUp HB.out hw783_2 :), (cUp HB.out hw783_3 :), (cUp HB.out hw783_4 :), (cUp HB.out hw783_5 :), (cUp HB.out hw793_0 :), (cUp HB.out hw793_1 :), (cUp HB.out hw793_2 :), (cUp HB.out hw793_3 :), (cUp HB.out hw793_4 :), (cUp HB.out hw793_5 :)⟩ (fun hHeld => ?_); refine with_tabW selvagelaw10_HunksScript.tab16 selvagelaw10_HunksScript.bits16 (fun HT_ HW_ => ?_)
       generalize w51.drew = w52 at HO758 HO762 HO765 HO769 HO772 BK759 HB HR783_5 HR793_5 hx783_0 hx783_1 hx783_2 hx783_3 hx783_4 hx783_5 hx793_0 hx793_1 hx793_2 hx793_3 hx793_4 hx793_5 hHeld ⊢
       refine pureT 0 ?_
       refine pureT 1 ?_
       refine oneT (N := some 85) 2 (fun K hK => ?_)
       refine goes_ Tryz.func23 (by kernel_rfl) rfl #[.slice Ao53 t760.length co53, .slice Ao54 t767.length co54] (by rfl) rfl rfl argsOk ?_
       with_reducible refine (selvagelaw10_sameTexts.calls k3 _ _ t760 _ _ t767 true _ ?side1 ?side2 ?side3 ?side4 A36.out).mono ?_
       (case side1 => repeat (first | exact (Kd.R_reads' HO762.out).2.2 | (with_reducible refine Kd.C_alloc ?_ _) | (with_reducible refine Kd.C_drewN ?_ _) | (with_reducible refine Kd.C_drew ?_)))
       (case side2 => exact (Kd.R_reads' HO762.out).2.1)
       (case side3 => repeat (first | exact (Kd.R_reads' HO769.out).2.2 | (with_reducible refine Kd.C_alloc ?_ _) | (with_reducible refine Kd.C_drewN ?_ _) | (with_reducible refine Kd.C_drew ?_)))
       (case side4 => exact (Kd.R_reads' HO769.out).2.1)
       rintro e w' ⟨rfl, ⟨nd, rfl⟩⟩
       refine ⟨_, rfl, ?_⟩
       obtain ⟨Ao55, co55, eo55⟩ := Kd.R_slice HO765.out
       (first | subst eo55 | (injection eo55 with f1_ f2_ f3_; have f4_ := f1_.symm; have f5_ := f3_.symm; clear f1_ f2_ f3_; subst f4_; subst f5_))
       obtain ⟨Ao56, co56, eo56⟩ := Kd.R_slice HO772.out
       (first | subst eo56 | (injection eo56 with f1_ f2_ f3_; have f4_ := f1_.symm; have f5_ := f3_.symm; clear f1_ f2_ f3_; subst f4_; subst f5_))
       refine hK.out _ _ ⟨bc BK759 0, bc BK759 1, bc BK759 2, bc BK759 3, bc BK759 4, bc BK759 5, (cUp HB.out hw783_0 :), (cUp HB.out hw783_1 :), (cUp HB.out hw783_2 :), (cUp HB.out hw783_3 :), (cUp HB.out hw783_4 :), (cUp HB.out hw783_5 :), (cUp HB.out hw793_0 :), (cUp HB.out hw793_1 :), (cUp HB.out hw793_2 :), (cUp HB.out hw793_3 :), (cUp HB.out hw793_4 :), (cUp HB.out hw793_5 :)⟩ (fun hHeld => ?_)
       clear hK K
       refine putT ?_
       refine pureT 3 ?_
       refine pureT 4 ?_
       refine pureT 5 ?_
       refine pureT 6 ?_
       refine oneT (N := some 90) 7 (fun K hK => ?_)
       refine goes_ Tryz.func23 (by kernel_rfl) rfl #[.slice Ao55 t763.length co55, .slice Ao56 t770.length co56] (by rfl) rfl rfl argsOk ?_
       with_reducible refine (selvagelaw10_sameTexts.calls k3 _ _ t763 _ _ t770 true _ ?side1 ?side2 ?side3 ?side4 A38.out).mono ?_
       (case side1 => repeat (first | exact (Kd.R_reads' HO765.out).2.2 | (with_reducible refine Kd.C_alloc ?_ _) | (with_reducible refine Kd.C_drewN ?_ _) | (with_reducible refine Kd.C_drew ?_)))
       (case side2 => exact (Kd.R_reads' HO765.out).2.1)
       (case side3 => repeat (first | exact (Kd.R_reads' HO772.out).2.2 | (with_reducible refine Kd.C_alloc ?_ _) | (with_reducible refine Kd.C_drewN ?_ _) | (with_reducible refine Kd.C_drew ?_)))
       (case side4 => exact (Kd.R_reads' HO772.out).2.1)
       rintro e w' ⟨rfl, ⟨nd, rfl⟩⟩
       refine ⟨_, rfl, ?_⟩
       refine hK.out _ _ ⟨bc BK759 0, bc BK759 1, bc BK759 2, bc BK759 3, bc BK759 4, bc BK759 5, (cUp HB.out hw783_0 :), (cUp HB.out hw783_1 :), (cUp HB.out hw783_2 :), (cUp HB.out hw783_3 :), (cUp HB.out hw783_4 :), (cUp HB.out hw783_5 :), (cUp HB.out hw793_0 :), (cUp HB.out hw793_1 :), (cUp HB.out hw793_2 :), (cUp HB.out hw793_3 :), (cUp HB.out hw793_4 :), (cUp HB.out hw793_5 :)⟩ (fun hHeld => ?_)
       clear hK K
       refine putT ?_
       refine pureT 8 ?_
       refine pureT 9 ?_
       refine pureT 10 ?_
       refine pureT 13 ?_
       refine pureT 14 ?_
       refine pureT 15 ?_
       refine takeT 11 hHeld ?_
       refine takeT 16 hHeld ?_
       refine oneT (N := some 95) 12 (fun K hK => ?_)
       refine goes_ Tryz.func33 (by kernel_rfl) rfl #[.agg #[.int .i64 t751, .int .i64 t752, .int .i64 t753, .int .i64 t754, .string t755, .slice Ao49 t756.length co49]] (by rfl) rfl rfl argsOk ?_
       with_reducible refine (hunks_Reverse.calls t751 t752 t753 t754 t755 _ _ t756 t775 t776 t777 t778 t779 t780 _ ?side1 ?side2 A40.out).mono ?_
       (case side1 => repeat (first | exact (Kd.R_reads' HO758.out).2.2 | (with_reducible refine Kd.C_alloc ?_ _) | (with_reducible refine Kd.C_drewN ?_ _) | (with_reducible refine Kd.C_drew ?_)))
       (case side2 => exact (Kd.R_reads' HO758.out).2.1)
       rintro e w57 ⟨v781, rfl, ho0, hb⟩
       refine ⟨_, rfl, ?_⟩
       replace HO762 := Aside0.mk (Kd.R_below (kdUp HO762.out) hb)
       replace HO765 := Aside0.mk (Kd.R_below (kdUp HO765.out) hb)
       replace HO769 := Aside0.mk (Kd.R_below (kdUp HO769.out) hb)
       replace HO772 := Aside0.mk (Kd.R_below (kdUp HO772.out) hb)
       have HO782 := Aside0.mk (Kd.R_lower (Kd.R_new' ho0 (Kd.R_lt (kdUp HO758.out))) (below_size (belPut)))
       replace HO758 := Aside0.mk (Kd.R_elder' (kdUp HO758.out) (Kd.R_base ho0) hb)
       replace BK759 := bkD BK759 hb
       replace HB := hbD HB hb
       (try clear hb)
       (try clear hk)
       (try clear ho0)
       refine hK.out _ _ ⟨bc BK759 0, bc BK759 1, bc BK759 2, bc BK759 3, bc BK759 4, bc BK759 5, (cUp HB.out hw783_0 :), (cUp HB.out hw783_1 :), (cUp HB.out hw783_2 :), (cUp HB.out hw783_3 :), (cUp HB.out hw783_4 :), (cUp HB.out hw783_5 :), (cUp HB.out hw793_0 :), (cUp HB.out hw793_1 :), (cUp HB.out hw793_2 :), (cUp HB.out hw793_3 :), (cUp HB.out hw793_4 :), (cUp HB.out hw793_5 :)⟩ (fun hHeld => ?_)
       clear hK K
       refine putT ?_
       refine oneT (N := some 100) 17 (fun K hK => ?_)
       refine goes_ Tryz.func34 (by kernel_rfl) rfl #[.agg #[.int .i64 ((rd_T29 l0 x12_3).f0), .int .i64 ((rd_T29 l0 x12_3).f1), .int .i64 ((rd_T29 l0 x12_3).f2), .int .i64 ((rd_T29 l0 x12_3).f3), .string ((rd_T29 l0 x12_3).f4), .slice A783_5 ((rd_T29 l0 x12_3).f5).length c783_5]] (by rfl) rfl rfl argsOk ?_
       with_reducible refine (selvageref10_Reverse.calls k3 ((rd_T29 l0 x12_3).f0) ((rd_T29 l0 x12_3).f1) ((rd_T29 l0 x12_3).f2) ((rd_T29 l0 x12_3).f3) ((rd_T29 l0 x12_3).f4) _ _ ((rd_T29 l0 x12_3).f5) t784 t785 t786 t787 t788 t789 _ ?side1 ?side2 A41.out).mono ?_
       (case side1 => exact kcU HR783_5 HB)
       (case side2 => exact HC783_5.out)
       rintro e w58 ⟨v790, rfl, ho0, hb⟩
       refine ⟨_, rfl, ?_⟩
       replace HO762 := Aside0.mk (Kd.R_below (kdUp HO762.out) hb)
       replace HO765 := Aside0.mk (Kd.R_below (kdUp HO765.out) hb)
       replace HO769 := Aside0.mk (Kd.R_below (kdUp HO769.out) hb)
       replace HO772 := Aside0.mk (Kd.R_below (kdUp HO772.out) hb)
       have HO791 := Aside0.mk (Kd.R_lower (Kd.R_new' (Kd.R_new' ho0 (Kd.R_lt (kdUp HO758.out))) (Kd.R_lt (kdUp HO782.out))) (below_size (belPut)))
       replace HO758 := Aside0.mk (Kd.R_elder' (kdUp HO758.out) (Kd.R_base ho0) hb)
       replace HO782 := Aside0.mk (Kd.R_elder' (kdUp HO782.out) (Kd.R_base ho0) hb)
       replace BK759 := bkD BK759 hb
       replace HB := hbD HB hb
       (try clear hb)
       (try clear hk)
       (try clear ho0)
       obtain ⟨Ao59, co59, eo59⟩ := Kd.R_slice HO782.out
       (first | subst eo59 | (injection eo59 with f1_ f2_ f3_; have f4_ := f1_.symm; have f5_ := f3_.symm; clear f1_ f2_ f3_; subst f4_; subst f5_))
       obtain ⟨Ao60, co60, eo60⟩ := Kd.R_slice HO791.out
       (first | subst eo60 | (injection eo60 with f1_ f2_ f3_; have f4_ := f1_.symm; have f5_ := f3_.symm; clear f1_ f2_ f3_; subst f4_; subst f5_))
       refine hK.out _ _ ⟨bc BK759 0, bc BK759 1, bc BK759 2, bc BK759 3, bc BK759 4, bc BK759 5, (cUp HB.out hw783_0 :), (cUp HB.out hw783_1 :), (cUp HB.out hw783_2 :), (cUp HB.out hw783_3 :), (cUp HB.out hw783_4 :), (cUp HB.out hw783_5 :), (cUp HB.out hw793_0 :), (cUp HB.out hw793_1 :), (cUp HB.out hw793_2 :), (cUp HB.out hw793_3 :), (cUp HB.out hw793_4 :), (cUp HB.out hw793_5 :)⟩ (fun hHeld => ?_)
       clear hK K
       refine putT ?_
       refine oneT (N := some 101) 18 (fun K hK => ?_)
       refine goes_ Tryz.func28 (by kernel_rfl) rfl #[.agg #[.int .i64 t775, .int .i64 t776, .int .i64 t777, .int .i64 t778, .string t779, .slice Ao59 t780.length co59], .agg #[.int .i64 t784, .int .i64 t785, .int .i64 t786, .int .i64 t787, .string t788, .slice Ao60 t789.length co60]] (by rfl) rfl rfl argsOk ?_
       with_reducible refine (selvagelaw10_same.calls k3 t775 t776 t777 t778 t779 _ _ t780 t784 t785 t786 t787 t788 _ _ t789 true _ ?side1 ?side2 ?side3 ?side4 A42.out).mono ?_
       (case side1 => repeat (first | exact (Kd.R_reads' HO782.out).2.2 | (with_reducible refine Kd.C_alloc ?_ _) | (with_reducible refine Kd.C_drewN ?_ _) | (with_reducible refine Kd.C_drew ?_)))
       (case side2 => exact (Kd.R_reads' HO782.out).2.1)
       (case side3 => repeat (first | exact (Kd.R_reads' HO791.out).2.2 | (with_reducible refine Kd.C_alloc ?_ _) | (with_reducible refine Kd.C_drewN ?_ _) | (with_reducible refine Kd.C_drew ?_)))
       (case side4 => exact (Kd.R_reads' HO791.out).2.1)
       rintro e w61 ⟨rfl, hb⟩
       refine ⟨_, rfl, ?_⟩
       replace HO758 := Aside0.mk (Kd.R_below (kdUp HO758.out) hb)
       replace HO762 := Aside0.mk (Kd.R_below (kdUp HO762.out) hb)
       replace HO765 := Aside0.mk (Kd.R_below (kdUp HO765.out) hb)
       replace HO769 := Aside0.mk (Kd.R_below (kdUp HO769.out) hb)
       replace HO772 := Aside0.mk (Kd.R_below (kdUp HO772.out) hb)
       replace HO782 := Aside0.mk (Kd.R_below (kdUp HO782.out) hb)
       replace HO791 := Aside0.mk (Kd.R_below (kdUp HO791.out) hb)
       replace BK759 := bkD BK759 hb
       replace HB := hbD HB hb
       (try clear hb)
       (try clear hk)
       refine hK.out _ _ ⟨bc BK759 0, bc BK759 1, bc BK759 2, bc BK759 3, bc BK759 4, bc BK759 5, (cUp HB.out hw783_0 :), (cUp HB.out hw783_1 :), (cUp HB.out hw783_2 :), (cUp HB.out hw783_3 :), (cUp HB.out hw783_4 :), (cUp HB.out hw783_5 :), (cUp HB.out hw793_0 :), (cUp HB.out hw793_1 :), (cUp HB.out hw793_2 :), (cUp HB.out hw793_3 :), (cUp HB.out hw793_4 :), (cUp HB.out hw793_5 :)⟩ (fun hHeld => ?_)
       clear hK K
       refine putT ?_
       refine pureT 19 ?_
       refine pureT 20 ?_
       refine pureT 21 ?_
       refine pureT 23 ?_
       refine pureT 24 ?_
       refine pureT 25 ?_
       refine takeT 22 hHeld ?_
       refine takeT 26 hHeld ?_
       refine oneT (N := some 110) 27 (fun K hK => ?_)
       refine goes_ Tryz.func28 (by kernel_rfl) rfl #[.agg #[.int .i64 t751, .int .i64 t752, .int .i64 t753, .int .i64 t754, .string t755, .slice Ao49 t756.length co49], .agg #[.int .i64 ((rd_T29 l0 x12_3).f0), .int .i64 ((rd_T29 l0 x12_3).f1), .int .i64 ((rd_T29 l0 x12_3).f2), .int .i64 ((rd_T29 l0 x12_3).f3), .string ((rd_T29 l0 x12_3).f4), .slice A783_5 ((rd_T29 l0 x12_3).f5).length c783_5]] (by rfl) rfl rfl argsOk ?_
       with_reducible refine (selvagelaw10_same.calls k3 t751 t752 t753 t754 t755 _ _ t756 ((rd_T29 l0 x12_3).f0) ((rd_T29 l0 x12_3).f1) ((rd_T29 l0 x12_3).f2) ((rd_T29 l0 x12_3).f3) ((rd_T29 l0 x12_3).f4) _ _ ((rd_T29 l0 x12_3).f5) true _ ?side1 ?side2 ?side3 ?side4 A44.out).mono ?_
       (case side1 => repeat (first | exact (Kd.R_reads' HO758.out).2.2 | (with_reducible refine Kd.C_alloc ?_ _) | (with_reducible refine Kd.C_drewN ?_ _) | (with_reducible refine Kd.C_drew ?_)))
       (case side2 => exact (Kd.R_reads' HO758.out).2.1)
       (case side3 => exact kcU HR793_5 HB)
       (case side4 => exact HC793_5.out)
       rintro e w62 ⟨rfl, hb⟩
       refine ⟨_, rfl, ?_⟩
       replace HO758 := Aside0.mk (Kd.R_below (kdUp HO758.out) hb)
       replace HO762 := Aside0.mk (Kd.R_below (kdUp HO762.out) hb)
       replace HO765 := Aside0.mk (Kd.R_below (kdUp HO765.out) hb)
       replace HO769 := Aside0.mk (Kd.R_below (kdUp HO769.out) hb)
       replace HO772 := Aside0.mk (Kd.R_below (kdUp HO772.out) hb)
       replace HO782 := Aside0.mk (Kd.R_below (kdUp HO782.out) hb)
       replace HO791 := Aside0.mk (Kd.R_below (kdUp HO791.out) hb)
       replace BK759 := bkD BK759 hb
       replace HB := hbD HB hb
       (try clear hb)
       (try clear hk)
       refine hK.out _ _ ⟨bc BK759 0, bc BK759 1, bc BK759 2, bc BK759 3, bc BK759 4, bc BK759 5, (cUp HB.out hw783_0 :), (cUp HB.out hw783_1 :), (cUp HB.out hw783_2 :), (cUp HB.out hw783_3 :), (cUp HB.out hw783_4 :), (cUp HB.out hw783_5 :), (cUp HB.out hw793_0 :), (cUp HB.out hw793_1 :), (cUp HB.out hw793_2 :), (cUp HB.out hw793_3 :), (cUp HB.out hw793_4 :), (cUp HB.out hw793_5 :)⟩ (fun hHeld => ?_)
       clear hK K
       refine putT ?_
       refine pureT 28 ?_
       refine pureT 29 ?_
       refine done_ (done_of HT_.out (by kernel_rfl)) ?_
       try go_wp2
       go_roundg k3
       case measure => have := HJ6.out; have := HK2.out; have := HK3.out; omega
       case rel => exact ⟨(wrap64 (x12_3 + 1)), eqNow, H', ⟨by have := HJ6.out; have := HK2.out; have := HK3.out; omega⟩, ⟨belPut⟩⟩
end Go.Proofs.YtecjoofjiockkaaGreatDoor.Pp
