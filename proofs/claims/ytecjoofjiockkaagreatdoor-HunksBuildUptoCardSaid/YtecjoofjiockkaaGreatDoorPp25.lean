import Derived.Test.YtecjoofjiockkaaGreatDoorESt
import Derived.Test.YtecjoofjiockkaaGreatDoorPp0
import Derived.Test.YtecjoofjiockkaaGreatDoorPp2
import Derived.Test.YtecjoofjiockkaaGreatDoorPp11
import Derived.Test.YtecjoofjiockkaaGreatDoorPp16
import Derived.Test.YtecjoofjiockkaaGreatDoorPp18
import Derived.Test.YtecjoofjiockkaaGreatDoorPp19
import Derived.Test.YtecjoofjiockkaaGreatDoorPp23
import Derived.Test.YtecjoofjiockkaaGreatDoorPp24
namespace Go.Proofs.YtecjoofjiockkaaGreatDoor.Pp
open Go.RowKit Go.Proofs.YtecjoofjiockkaaGreatDoor.Ext Go.Proofs.YtecjoofjiockkaaGreatDoorW.PrintWords Go.Proofs.YtecjoofjiockkaaGreatDoorW.PrintLast Go.Proofs.YtecjoofjiockkaaGreatDoorW.PrintMore
attribute [local go_sem] max2_int min2_int max_two min_two max_three min_three max_four min_four   -- for this text's walks alone
set_option linter.unusedVariables false
set_option linter.unusedSimpArgs false
attribute [local go_sem high] eqA49
mutual
def selvagelaw10_HunksBuild.j0 : Nat → List (S49) → Bool → List (S49) → List ByteArray → List ByteArray → Int → Option (Bool)
 | 0, _, _, _, _, _, _ => none
 | k + 1, x3, x72, x516000, x516001, x516002, x516003 => if x72 = true then (none) else (selvagelaw10_HunksBuild.l0 k x3 0 x516000 x516001 x516002 x516003)
def selvagelaw10_HunksBuild.l0 : Nat → List (S49) → Int → List (S49) → List ByteArray → List ByteArray → Int → Option (Bool)
 | 0, _, _, _, _, _, _ => none
 | k + 1, x3, x10, x516000, x516001, x516002, x516003 => if x10 < (x3.length : Int) then (if 0 ≤ x10 then (if x10 < (x516000.length : Int) then (if (!(((rd_T49 x3 x10).f0) == ((rd_T49 x516000 x10).f0)) || (!(((rd_T49 x3 x10).f1) == ((rd_T49 x516000 x10).f1)) || (!(((rd_T49 x3 x10).f2) == ((rd_T49 x516000 x10).f2)) || (!(((rd_T49 x3 x10).f3) == ((rd_T49 x516000 x10).f3)))))) = true then (none) else (selvagelaw10_HunksBuild.l0 k x3 (wrap64 (x10 + 1)) x516000 x516001 x516002 x516003)) else (none)) else (none)) else ((selvagelaw10_works.f k).bind fun t539 => (some t539))
end
def selvagelaw10_HunksBuild.f (k : Nat) (l0_0 : List (S49)) (l0_1 : List ByteArray) (l0_2 : List ByteArray) (a0_3 : Int) : Option (Bool) := (selvagelaw10_changes.f l0_0).bind fun t516 => ((selvagelaw10_texts.f l0_1).bind fun t519 => ((selvagelaw10_texts.f l0_2).bind fun t522 => ((hunks_Build.f k t516 t519 t522 a0_3).bind fun bt525 => ((selvageref10_Build.f k l0_0 l0_1 l0_2 a0_3).bind fun bt529 => ((selvagelaw10_sameAll.f k bt525.1 bt529.1).bind fun t533 => (if t533 = true then ((selvagelaw10_num.f bt525.2).bind fun t534 => (if t534 = bt529.2 then ((selvagelaw10_sameTexts.f k t519 l0_1).bind fun t535 => (if t535 = true then ((selvagelaw10_sameTexts.f k t522 l0_2).bind fun t536 => (if t536 = true then (selvagelaw10_HunksBuild.j0 k t516 ((t516.length : Int) != (l0_0.length : Int)) l0_0 l0_1 l0_2 a0_3) else (selvagelaw10_HunksBuild.j0 k t516 true l0_0 l0_1 l0_2 a0_3))) else (selvagelaw10_HunksBuild.j0 k t516 true l0_0 l0_1 l0_2 a0_3))) else (selvagelaw10_HunksBuild.j0 k t516 true l0_0 l0_1 l0_2 a0_3))) else (selvagelaw10_HunksBuild.j0 k t516 true l0_0 l0_1 l0_2 a0_3)))))))
def selvagelaw10_HunksBuild.T1 : Bool × List (List Nat × List Nat) := (true, [([], []), ([0], [0]), ([1], [1]), ([], []), ([3], [3]), ([4, 2], [4]), ([], []), ([6], [6]), ([7, 5], [7]), ([2, 8, 0, 1, 2], [2]), ([5, 9, 0, 1, 2, 3, 4, 5, 9], [5]), ([8, 10, 0, 1, 2, 3, 4, 5, 6, 7, 8, 9, 10], [8])])
def selvagelaw10_HunksBuild.B1 : List Nat := [0, 1, 3, 0, 8, 31, 0, 64, 255, 511, 1023, 2047]
theorem selvagelaw10_HunksBuild.tab1 : rtab .any (opsOf Tryz.f4 1) = selvagelaw10_HunksBuild.T1 := by kernel_rfl
theorem selvagelaw10_HunksBuild.bits1 : waitsOk selvagelaw10_HunksBuild.T1.2 selvagelaw10_HunksBuild.B1 = true := by kernel_rfl
def selvagelaw10_HunksBuild.T9 : Bool × List (List Nat × List Nat) := (true, [([], []), ([], []), ([0, 1], [0, 1]), ([2], [2]), ([], []), ([4], [4]), ([], []), ([5, 6], [5, 6]), ([7], [7]), ([3, 8], [3, 8])])
def selvagelaw10_HunksBuild.B9 : List Nat := [0, 0, 3, 7, 0, 16, 0, 112, 240, 511]
theorem selvagelaw10_HunksBuild.tab9 : rtab .any (opsOf Tryz.f4 9) = selvagelaw10_HunksBuild.T9 := by kernel_rfl
theorem selvagelaw10_HunksBuild.bits9 : waitsOk selvagelaw10_HunksBuild.T9.2 selvagelaw10_HunksBuild.B9 = true := by kernel_rfl
theorem selvagelaw10_HunksBuild.j0_dead : ∀ k y0 y2 y3 y4 y5, selvagelaw10_HunksBuild.j0 k y0 true y2 y3 y4 y5 = none
 | 0, _, _, _, _, _ => rfl
 | k + 1, _, _, _, _, _ => by simp [selvagelaw10_HunksBuild.j0]
set_option maxHeartbeats 80000000 in
set_option maxRecDepth 100000 in
theorem selvagelaw10_HunksBuild.calls (k : Nat) (A0_0 : Option Addr) (c0_0 : Nat) (l0_0 : List (S49)) (A0_1 : Option Addr) (c0_1 : Nat) (l0_1 : List ByteArray) (A0_2 : Option Addr) (c0_2 : Nat) (l0_2 : List ByteArray) (a0_3 : Int) (r : Bool) (w : World) (hr0_0 : Kd.C k49 w A0_0 l0_0.length l0_0) (hc0_0 : l0_0.length ≤ c0_0) (hr0_1 : Kd.C Kd.string w A0_1 l0_1.length l0_1) (hc0_1 : l0_1.length ≤ c0_1) (hr0_2 : Kd.C Kd.string w A0_2 l0_2.length l0_2) (hc0_2 : l0_2.length ≤ c0_2) (hGL : Glob w) (h : selvagelaw10_HunksBuild.f k l0_0 l0_1 l0_2 a0_3 = some r) :
  Calls Tryz.prog 4 #[.agg #[.slice A0_0 l0_0.length c0_0, .slice A0_1 l0_1.length c0_1, .slice A0_2 l0_2.length c0_2, .int .i64 a0_3]] w fun e w' => e = .returned (.bool r) ∧ Below w.heap.size w w' := by
 have hu40 := Tryz.underlying40
 have hu49 := Tryz.underlying49
 have HR0_0 := Aside0.mk hr0_0
 have HC0_0 := Aside0.mk hc0_0
 clear hr0_0 hc0_0
 have HR0_1 := Aside0.mk hr0_1
 have HC0_1 := Aside0.mk hc0_1
 clear hr0_1 hc0_1
 have HR0_2 := Aside0.mk hr0_2
 have HC0_2 := Aside0.mk hc0_2
 clear hr0_2 hc0_2
 have HB := Aside0.mk (Below.refl w.heap.size w)
 have H := h
 clear h
 unfold selvagelaw10_HunksBuild.f at H
 replace H := bdS H
 obtain ⟨t516, A2, H⟩ := H
 replace H := bdS H
 obtain ⟨t519, A3, H⟩ := H
 replace H := bdS H
 obtain ⟨t522, A4, H⟩ := H
 replace H := bdS H
 obtain ⟨⟨t525, t526⟩, A5, H⟩ := H
 replace H : ((selvageref10_Build.f k l0_0 l0_1 l0_2 a0_3).bind fun bt529 => ((selvagelaw10_sameAll.f k t525 bt529.1).bind fun t533 => (if t533 = true then ((selvagelaw10_num.f t526).bind fun t534 => (if t534 = bt529.2 then ((selvagelaw10_sameTexts.f k t519 l0_1).bind fun t535 => (if t535 = true then ((selvagelaw10_sameTexts.f k t522 l0_2).bind fun t536 => (if t536 = true then (selvagelaw10_HunksBuild.j0 k t516 ((t516.length : Int) != (l0_0.length : Int)) l0_0 l0_1 l0_2 a0_3) else (selvagelaw10_HunksBuild.j0 k t516 true l0_0 l0_1 l0_2 a0_3))) else (selvagelaw10_HunksBuild.j0 k t516 true l0_0 l0_1 l0_2 a0_3))) else (selvagelaw10_HunksBuild.j0 k t516 true l0_0 l0_1 l0_2 a0_3))) else (selvagelaw10_HunksBuild.j0 k t516 true l0_0 l0_1 l0_2 a0_3)))) = some r := H
 replace H := bdS H
 obtain ⟨⟨t529, t530⟩, A6, H⟩ := H
 replace H : ((selvagelaw10_sameAll.f k t525 t529).bind fun t533 => (if t533 = true then ((selvagelaw10_num.f t526).bind fun t534 => (if t534 = t530 then ((selvagelaw10_sameTexts.f k t519 l0_1).bind fun t535 => (if t535 = true then ((selvagelaw10_sameTexts.f k t522 l0_2).bind fun t536 => (if t536 = true then (selvagelaw10_HunksBuild.j0 k t516 ((t516.length : Int) != (l0_0.length : Int)) l0_0 l0_1 l0_2 a0_3) else (selvagelaw10_HunksBuild.j0 k t516 true l0_0 l0_1 l0_2 a0_3))) else (selvagelaw10_HunksBuild.j0 k t516 true l0_0 l0_1 l0_2 a0_3))) else (selvagelaw10_HunksBuild.j0 k t516 true l0_0 l0_1 l0_2 a0_3))) else (selvagelaw10_HunksBuild.j0 k t516 true l0_0 l0_1 l0_2 a0_3))) = some r := H
 have HC7 := Aside0.mk H
 clear H
 go_enter Tryz.func4, Tryz.ntmps4
 try simp only [List.append_eq, List.cons_append, List.nil_append]
 try go_wp2_with (first | ((with_reducible refine gate_dst (N := 1) rfl ?_); (try (refine gate_guard (by rfl) ?_; dsimp only)); refine boxEv (N := 1) #[.slice A0_0 l0_0.length c0_0, .slice A0_1 l0_1.length c0_1, .slice A0_2 l0_2.length c0_2, .int .i64 a0_3] 40 ?_; intro gb515 hg w8 hbox hb; have BK515 := Aside0.mk hbox; have GW515 := gwN HB hg; have GE515 := GW515; replace HB := hbD HB hb; clear hb hbox hg))
 replace BK515 := Aside0.mk (blk_drew BK515.out)
 replace HB := Aside0.mk (below_drew1 HB.out)
 refine start_ (n := 12) (S := fun w' => w'.cell? ⟨gb515, 0, none⟩ = some (.slice A0_0 l0_0.length c0_0) ∧ w'.cell? ⟨gb515, 1, none⟩ = some (.slice A0_1 l0_1.length c0_1) ∧ w'.cell? ⟨gb515, 2, none⟩ = some (.slice A0_2 l0_2.length c0_2) ∧ w'.cell? ⟨gb515, 3, none⟩ = some (.int .i64 a0_3)) (ds := []) #[false, false, false, false, false, false, false, false, false, false, false, false] (by kernel_rfl) rfl rfl ⟨bc BK515 0, bc BK515 1, bc BK515 2, bc BK515 3⟩ (fun hHeld => ?_); refine with_tabW selvagelaw10_HunksBuild.tab1 selvagelaw10_HunksBuild.bits1 (fun HT_ HW_ => ?_)
 generalize w8.drew = w9 at BK515 HB hHeld ⊢
 refine pureT 0 ?_
 refine pureT 3 ?_
 refine pureT 6 ?_
 refine takeT 1 hHeld ?_
 refine takeT 4 hHeld ?_
 refine takeT 7 hHeld ?_
 refine one_ (i := 2) (N := some 13) #[true, true, true, true, true, false, true, true, false, false, false, false] rfl rfl (one_of HT_.out (by kernel_rfl)) (by decide) (fun K hK => ?_)
 refine goes_ Tryz.func19 (by kernel_rfl) rfl #[.slice A0_0 l0_0.length c0_0] (by rfl) rfl rfl argsOk ?_
 with_reducible refine (selvagelaw10_changes.calls _ _ l0_0 t516 _ ?side1 ?side2 A2.out).mono ?_
 (case side1 => exact kcU HR0_0 HB)
 (case side2 => exact HC0_0.out)
 rintro e w10 ⟨v517, rfl, ho0, hb⟩
 refine ⟨_, rfl, ?_⟩
 have HO518 := Aside0.mk (Kd.R_lower ho0 (below_size (belPut)))
 replace BK515 := bkD BK515 hb
 replace HB := hbD HB hb
 (try clear hb)
 (try clear hb2)
 (try clear hk)
 (try clear hi)
 (try clear ho0)
 refine hK.out _ _ ⟨bc BK515 0, bc BK515 1, bc BK515 2, bc BK515 3⟩ (fun hHeld => ?_)
 clear hK K
 refine norm_ (a' := ?_) ?_ ?_
 rotate_left
 ·show Act.put _ (some 13) _ = _
  simp only [Act.put, List.setIfInBounds_toArray, List.set_cons_zero, List.set_cons_succ, i64_w, i32_w]
  rfl
 refine one_ (i := 5) (N := some 16) #[true, true, true, true, true, true, true, true, false, false, false, false] rfl rfl (one_of HT_.out (by kernel_rfl)) (by decide) (fun K hK => ?_)
 refine goes_ Tryz.func20 (by kernel_rfl) rfl #[.slice A0_1 l0_1.length c0_1] (by rfl) rfl rfl argsOk ?_
 with_reducible refine (selvagelaw10_texts.calls _ _ l0_1 t519 _ ?side1 ?side2 A3.out).mono ?_
 (case side1 => exact kcU HR0_1 HB)
 (case side2 => exact HC0_1.out)
 rintro e w11 ⟨v520, rfl, ho0, hb⟩
 refine ⟨_, rfl, ?_⟩
 replace HO518 := Aside0.mk (Kd.R_below (kdUp HO518.out) hb)
 have HO521 := Aside0.mk (Kd.R_lower ho0 (below_size (belPut)))
 replace BK515 := bkD BK515 hb
 replace HB := hbD HB hb
 (try clear hb)
 (try clear hb2)
 (try clear hk)
 (try clear hi)
 (try clear ho0)
 refine hK.out _ _ ⟨bc BK515 0, bc BK515 1, bc BK515 2, bc BK515 3⟩ (fun hHeld => ?_)
 clear hK K
 refine norm_ (a' := ?_) ?_ ?_
 rotate_left
 ·show Act.put _ (some 16) _ = _
  simp only [Act.put, List.setIfInBounds_toArray, List.set_cons_zero, List.set_cons_succ, i64_w, i32_w]
  rfl
 refine one_ (i := 8) (N := some 19) #[true, true, true, true, true, true, true, true, true, false, false, false] rfl rfl (one_of HT_.out (by kernel_rfl)) (by decide) (fun K hK => ?_)
 refine goes_ Tryz.func20 (by kernel_rfl) rfl #[.slice A0_2 l0_2.length c0_2] (by rfl) rfl rfl argsOk ?_
 with_reducible refine (selvagelaw10_texts.calls _ _ l0_2 t522 _ ?side1 ?side2 A4.out).mono ?_
 (case side1 => exact kcU HR0_2 HB)
 (case side2 => exact HC0_2.out)
 rintro e w12 ⟨v523, rfl, ho0, hb⟩
 refine ⟨_, rfl, ?_⟩
 replace HO518 := Aside0.mk (Kd.R_below (kdUp HO518.out) hb)
 have HO524 := Aside0.mk (Kd.R_lower (Kd.R_new' ho0 (Kd.R_lt (kdUp HO521.out))) (below_size (belPut)))
 replace HO521 := Aside0.mk (Kd.R_elder' (kdUp HO521.out) (Kd.R_base ho0) hb)
 replace BK515 := bkD BK515 hb
 replace HB := hbD HB hb
 (try clear hb)
 (try clear hb2)
 (try clear hk)
 (try clear hi)
 (try clear ho0)
 refine hK.out _ _ ⟨bc BK515 0, bc BK515 1, bc BK515 2, bc BK515 3⟩ (fun hHeld => ?_)
 clear hK K
 refine norm_ (a' := ?_) ?_ ?_
 rotate_left
 ·show Act.put _ (some 19) _ = _
  simp only [Act.put, List.setIfInBounds_toArray, List.set_cons_zero, List.set_cons_succ, i64_w, i32_w]
  rfl
 refine pureT 9 ?_
 refine pureT 10 ?_
 refine pureT 11 ?_
 refine done_ (done_of HT_.out (by kernel_rfl)) ?_
 have hcz13_0 := bkc (v := .slice A0_0 l0_0.length c0_0) BK515.out 0 rfl
 have hcz13_1 := bkc (v := .slice A0_1 l0_1.length c0_1) BK515.out 1 rfl
 have hcz13_2 := bkc (v := .slice A0_2 l0_2.length c0_2) BK515.out 2 rfl
 have hcz13_3 := bkc (v := .int .i64 a0_3) BK515.out 3 rfl
 have hfz13_0 := blk_frozen BK515.out 0
 have hfz13_1 := blk_frozen BK515.out 1
 have hfz13_2 := blk_frozen BK515.out 2
 have hfz13_3 := blk_frozen BK515.out 3
 obtain ⟨Ao14, co14, eo14⟩ := Kd.R_slice HO518.out
 subst eo14
 obtain ⟨Ao15, co15, eo15⟩ := Kd.R_slice HO521.out
 subst eo15
 obtain ⟨Ao16, co16, eo16⟩ := Kd.R_slice HO524.out
 subst eo16
 go_upto_region 4 with (first | ((with_reducible refine gate_callee (f := 21) rfl ?_); refine goL (some 26) Tryz.func21 #[.slice Ao14 t516.length co14, .slice Ao15 t519.length co15, .slice Ao16 t522.length co16, .int .i64 a0_3] ?_; (with_reducible refine (hunks_Build.calls k _ _ t516 _ _ t519 _ _ t522 a0_3 t525 t526 _ ?side1 ?side2 ?side3 ?side4 ?side5 ?side6 A5.out).mono ?_); (case side1 => repeat (first | exact (Kd.R_reads' HO518.out).2.2 | (with_reducible refine Kd.C_alloc ?_ _) | (with_reducible refine Kd.C_drewN ?_ _) | (with_reducible refine Kd.C_drew ?_))); (case side2 => exact (Kd.R_reads' HO518.out).2.1); (case side3 => repeat (first | exact (Kd.R_reads' HO521.out).2.2 | (with_reducible refine Kd.C_alloc ?_ _) | (with_reducible refine Kd.C_drewN ?_ _) | (with_reducible refine Kd.C_drew ?_))); (case side4 => exact (Kd.R_reads' HO521.out).2.1); (case side5 => repeat (first | exact (Kd.R_reads' HO524.out).2.2 | (with_reducible refine Kd.C_alloc ?_ _) | (with_reducible refine Kd.C_drewN ?_ _) | (with_reducible refine Kd.C_drew ?_))); (case side6 => exact (Kd.R_reads' HO524.out).2.1); rintro e w17 ⟨v527, rfl, ho0, hb⟩; refine ⟨_, rfl, ?_⟩; replace HO518 := Aside0.mk (Kd.R_below (kdUp HO518.out) hb); replace HO521 := Aside0.mk (Kd.R_below (kdUp HO521.out) hb); replace HO524 := Aside0.mk (Kd.R_below (kdUp HO524.out) hb); have HO528 := Aside0.mk (Kd.S_lower ho0 (below_size (belPut))); replace BK515 := bkD BK515 hb; replace HB := hbD HB hb; clear hb; (try clear ho0); (try simp only [errW_none, errW_some]); obtain ⟨hcz18_0, hcz18_1, hcz18_2, hcz18_3, hfz18_0, hfz18_1, hfz18_2, hfz18_3⟩ := bcf4 (W := w17) BK515) | ((with_reducible refine gate_callee (f := 22) rfl ?_); refine goL (some 38) Tryz.func22 #[.slice A0_0 l0_0.length c0_0, .slice A0_1 l0_1.length c0_1, .slice A0_2 l0_2.length c0_2, .int .i64 a0_3] ?_; (with_reducible refine (selvageref10_Build.calls k _ _ l0_0 _ _ l0_1 _ _ l0_2 a0_3 t529 t530 _ ?side1 ?side2 ?side3 ?side4 ?side5 ?side6 A6.out).mono ?_); (case side1 => exact kcU HR0_0 HB); (case side2 => exact HC0_0.out); (case side3 => exact kcU HR0_1 HB); (case side4 => exact HC0_1.out); (case side5 => exact kcU HR0_2 HB); (case side6 => exact HC0_2.out); rintro e w19 ⟨v531, rfl, ho0, hb⟩; refine ⟨_, rfl, ?_⟩; replace HO518 := Aside0.mk (Kd.R_below (kdUp HO518.out) hb); replace HO521 := Aside0.mk (Kd.R_below (kdUp HO521.out) hb); replace HO524 := Aside0.mk (Kd.R_below (kdUp HO524.out) hb); have HO532 := Aside0.mk (Kd.S_lower (Kd.S_new' ho0 (Kd.S_lt (by (with_reducible repeat (first | apply Kd.S_alloc | apply Kd.S_drewN | apply Kd.S_drew)); exact HO528.out))) (below_size (belPut))); replace HO528 := Aside0.mk (Kd.S_elder' (by (with_reducible repeat (first | apply Kd.S_alloc | apply Kd.S_drewN | apply Kd.S_drew)); exact HO528.out) (Kd.S_base ho0) hb); replace BK515 := bkD BK515 hb; replace HB := hbD HB hb; clear hb; (try clear ho0)))
 (try simp only [Act.put, List.setIfInBounds_toArray, List.set_cons_zero, List.set_cons_succ])
 go_cut [72] (fun v72 wc => ∃ (kq : Nat) (x72_6 : Bool), v72 = .bool x72_6 ∧ Aside0 (selvagelaw10_HunksBuild.j0 kq t516 x72_6 l0_0 l0_1 l0_2 a0_3 = some r) ∧ Aside0 (kq ≤ k) ∧ Aside0 (Kd.R k49 49 wc w.heap.size (fun _ => True) (.slice Ao14 t516.length co14) t516) ∧ Aside0 (wc.heap[gb515]? = some (.cells #[(.slice A0_0 l0_0.length c0_0), (.slice A0_1 l0_1.length c0_1), (.slice A0_2 l0_2.length c0_2), .int .i64 a0_3] 40 (0, 0))) ∧ Aside0 (Below w.heap.size w wc))
 case first =>
  have H := HC7.out
  clear HC7
  replace H := bdS H
  obtain ⟨t533, A20, H⟩ := H
  by_cases c21 : t533 = true
  rotate_left
  ·rw [if_neg c21] at H
   first | exact absurd H (by simp) | (rw [selvagelaw10_HunksBuild.j0_dead] at H; exact absurd H (by simp))
  subst c21
  have H1 : ((selvagelaw10_num.f t526).bind fun t534 => (if t534 = t530 then ((selvagelaw10_sameTexts.f k t519 l0_1).bind fun t535 => (if t535 = true then ((selvagelaw10_sameTexts.f k t522 l0_2).bind fun t536 => (if t536 = true then (selvagelaw10_HunksBuild.j0 k t516 ((t516.length : Int) != (l0_0.length : Int)) l0_0 l0_1 l0_2 a0_3) else (selvagelaw10_HunksBuild.j0 k t516 true l0_0 l0_1 l0_2 a0_3))) else (selvagelaw10_HunksBuild.j0 k t516 true l0_0 l0_1 l0_2 a0_3))) else (selvagelaw10_HunksBuild.j0 k t516 true l0_0 l0_1 l0_2 a0_3))) = some r := by rw [if_pos rfl] at H; exact H
  clear H
  have H := H1
  clear H1
  replace H := bdS H
  obtain ⟨t534, A22, H⟩ := H
  replace H := itEn H
  rcases H with ⟨c23, -, -, H⟩ | ⟨-, c23b0, c23b1, H⟩
  ·first | exact absurd H (by simp) | (rw [selvagelaw10_HunksBuild.j0_dead] at H; exact absurd H (by simp))
  (first | rw [c23b0] | (simp only [i64_w, i32_w]; rw [c23b0]) | skip)
  replace H := bdS H
  obtain ⟨t535, A24, H⟩ := H
  by_cases c25 : t535 = true
  rotate_left
  ·rw [if_neg c25] at H
   first | exact absurd H (by simp) | (rw [selvagelaw10_HunksBuild.j0_dead] at H; exact absurd H (by simp))
  subst c25
  have H1 : ((selvagelaw10_sameTexts.f k t522 l0_2).bind fun t536 => (if t536 = true then (selvagelaw10_HunksBuild.j0 k t516 ((t516.length : Int) != (l0_0.length : Int)) l0_0 l0_1 l0_2 a0_3) else (selvagelaw10_HunksBuild.j0 k t516 true l0_0 l0_1 l0_2 a0_3))) = some r := by rw [if_pos rfl] at H; exact H
  clear H
  have H := H1
  clear H1
  replace H := bdS H
  obtain ⟨t536, A26, H⟩ := H
  by_cases c27 : t536 = true
  rotate_left
  ·rw [if_neg c27] at H
   first | exact absurd H (by simp) | (rw [selvagelaw10_HunksBuild.j0_dead] at H; exact absurd H (by simp))
  subst c27
  have H1 : (selvagelaw10_HunksBuild.j0 k t516 ((t516.length : Int) != (l0_0.length : Int)) l0_0 l0_1 l0_2 a0_3) = some r := by rw [if_pos rfl] at H; exact H
  clear H
  have H := H1
  clear H1
  have H' := Aside0.mk H
  clear H
  obtain ⟨Ao28, co28, eo28⟩ := Kd.S_slice HO528.out
  subst eo28
  obtain ⟨Ao29, co29, eo29⟩ := Kd.S_slice HO532.out
  subst eo29
  go_wp2_with (first | ((with_reducible refine gate_callee (f := 17) rfl ?_); refine goL (some 43) Tryz.func17 #[.slice Ao28 t525.length co28, .slice Ao29 t529.length co29] ?_; (with_reducible refine (selvagelaw10_sameAll.calls k _ _ t525 _ _ t529 true _ ?side1 ?side2 ?side3 ?side4 A20.out).mono ?_); (case side1 => repeat (first | exact (Kd.S_reads' HO528.out).2.2 | (with_reducible refine Kd.C_alloc ?_ _) | (with_reducible refine Kd.C_drewN ?_ _) | (with_reducible refine Kd.C_drew ?_))); (case side2 => exact (Kd.S_reads' HO528.out).2.1); (case side3 => repeat (first | exact (Kd.S_reads' HO532.out).2.2 | (with_reducible refine Kd.C_alloc ?_ _) | (with_reducible refine Kd.C_drewN ?_ _) | (with_reducible refine Kd.C_drew ?_))); (case side4 => exact (Kd.S_reads' HO532.out).2.1); rintro e w30 ⟨rfl, hb⟩; refine ⟨_, rfl, ?_⟩; replace HO518 := Aside0.mk (Kd.R_below (kdUp HO518.out) hb); replace HO521 := Aside0.mk (Kd.R_below (kdUp HO521.out) hb); replace HO524 := Aside0.mk (Kd.R_below (kdUp HO524.out) hb); replace HO528 := Aside0.mk (Kd.S_below (by (with_reducible repeat (first | apply Kd.S_alloc | apply Kd.S_drewN | apply Kd.S_drew)); exact HO528.out) hb); replace HO532 := Aside0.mk (Kd.S_below (by (with_reducible repeat (first | apply Kd.S_alloc | apply Kd.S_drewN | apply Kd.S_drew)); exact HO532.out) hb); replace BK515 := bkD BK515 hb; replace HB := hbD HB hb; clear hb; have CA22 := fun W (hG_ : Glob W) => selvagelaw10_num.calls t526 t534 W hG_ A22.out; try simp only [errW_none, errW_some] at CA22) | (go_at_call 11; (with_reducible refine (CA22 _ ?side1).mono ?_); (case side1 => exact Glob.below hGL (belPut)); rintro e w31 ⟨rfl, hb⟩; replace HO518 := Aside0.mk (Kd.R_below (kdUp HO518.out) hb); replace HO521 := Aside0.mk (Kd.R_below (kdUp HO521.out) hb); replace HO524 := Aside0.mk (Kd.R_below (kdUp HO524.out) hb); replace HO528 := Aside0.mk (Kd.S_below (by (with_reducible repeat (first | apply Kd.S_alloc | apply Kd.S_drewN | apply Kd.S_drew)); exact HO528.out) hb); replace HO532 := Aside0.mk (Kd.S_below (by (with_reducible repeat (first | apply Kd.S_alloc | apply Kd.S_drewN | apply Kd.S_drew)); exact HO532.out) hb); replace BK515 := bkD BK515 hb; replace HB := hbD HB hb; clear hb; obtain ⟨hcz32_0, hcz32_1, hcz32_2, hcz32_3, hfz32_0, hfz32_1, hfz32_2, hfz32_3⟩ := bcf4 (W := w31) BK515) | (go_at_call 23; (with_reducible refine (selvagelaw10_sameTexts.calls k _ _ t519 _ _ l0_1 true _ ?side1 ?side2 ?side3 ?side4 A24.out).mono ?_); (case side1 => repeat (first | exact (Kd.R_reads' HO521.out).2.2 | (with_reducible refine Kd.C_alloc ?_ _) | (with_reducible refine Kd.C_drewN ?_ _) | (with_reducible refine Kd.C_drew ?_))); (case side2 => exact (Kd.R_reads' HO521.out).2.1); (case side3 => exact kcU HR0_1 HB); (case side4 => exact HC0_1.out); rintro e w' ⟨rfl, ⟨nd, rfl⟩⟩) | (go_at_call 23; (with_reducible refine (selvagelaw10_sameTexts.calls k _ _ t522 _ _ l0_2 true _ ?side1 ?side2 ?side3 ?side4 A26.out).mono ?_); (case side1 => repeat (first | exact (Kd.R_reads' HO524.out).2.2 | (with_reducible refine Kd.C_alloc ?_ _) | (with_reducible refine Kd.C_drewN ?_ _) | (with_reducible refine Kd.C_drew ?_))); (case side2 => exact (Kd.R_reads' HO524.out).2.1); (case side3 => repeat (first | exact (Kd.C_below HR0_2.out (belPut)) | (with_reducible refine Kd.C_alloc ?_ _) | (with_reducible refine Kd.C_drewN ?_ _) | (with_reducible refine Kd.C_drew ?_))); (case side4 => exact HC0_2.out); rintro e w' ⟨rfl, ⟨nd, rfl⟩⟩))
  go_meet
  case rel => exact ⟨_, (((t516.length : Int) != (l0_0.length : Int))), eqNow, H', ⟨by first | omega | exact Nat.le_refl _⟩, ⟨kdMv HO518⟩, ⟨bkUp BK515.out⟩, ⟨belPut⟩⟩
 case rest =>
  clear HC7
  try clear hcz13_0 hcz13_1 hcz13_2 hcz13_3
  try clear hcz18_0 hcz18_1 hcz18_2 hcz18_3
  try clear hfz13_0 hfz13_1 hfz13_2 hfz13_3
  try clear hfz18_0 hfz18_1 hfz18_2 hfz18_3
  obtain ⟨kq, x72_6, rfl, HA, HJ6, HO_3, BK515, HB⟩ := hcut
  cases kq with
  | zero => exact absurd HA.out (by simp [selvagelaw10_HunksBuild.j0])
  | succ kj6 =>
   have H := HA.out
   clear HA
   simp only [selvagelaw10_HunksBuild.j0] at H
   by_cases c50 : x72_6 = true
   ·rw [if_pos c50] at H
    exact absurd H (by simp)
   replace c50 := Bool.eq_false_iff.mpr c50
   subst c50
   have H1 : (selvagelaw10_HunksBuild.l0 kj6 t516 0 l0_0 l0_1 l0_2 a0_3) = some r := by rw [if_neg (show ¬ (false = true) by decide)] at H; exact H
   clear H
   have H := H1
   clear H1
   have H' := Aside0.mk H
   clear H
   go_wp2
   go_loopg [10] kj6 (fun kq v10 w' => ∃ (x10_2 : Int), v10 = .int .i64 x10_2 ∧ Aside0 (selvagelaw10_HunksBuild.l0 kq t516 x10_2 l0_0 l0_1 l0_2 a0_3 = some r) ∧ Aside0 (kq ≤ kj6) ∧ Aside0 (Kd.R k49 49 w' w.heap.size (fun _ => True) (.slice Ao14 t516.length co14) t516) ∧ Aside0 (w'.heap[gb515]? = some (.cells #[(.slice A0_0 l0_0.length c0_0), (.slice A0_1 l0_1.length c0_1), (.slice A0_2 l0_2.length c0_2), .int .i64 a0_3] 40 (0, 0))) ∧ Aside0 (Below w.heap.size w w'))
   case atStart => exact ⟨(0), eqNow, H', ⟨Nat.le_refl _⟩, ⟨kdMv HO_3⟩, ⟨bkUp BK515.out⟩, ⟨belPut⟩⟩
   case round =>
    clear H'
    try clear c50
    try clear hcz13_0 hcz13_1 hcz13_2 hcz13_3
    try clear hcz18_0 hcz18_1 hcz18_2 hcz18_3
    try clear hfz13_0 hfz13_1 hfz13_2 hfz13_3
    try clear hfz18_0 hfz18_1 hfz18_2 hfz18_3
    obtain ⟨x10_2, rfl, HA, HK2, HO_3, BK515, HB⟩ := hrel
    cases gk with
    | zero => exact absurd HA.out (by simp [selvagelaw10_HunksBuild.l0])
    | succ k2 =>
     have H := HA.out
     clear HA
     simp only [selvagelaw10_HunksBuild.l0] at H
     replace H := itLn H
     rcases H with ⟨-, c51b0, H⟩ | ⟨-, c51b0, H⟩
     ·replace H := bdS H
      obtain ⟨t539, A57, H⟩ := H
      obtain rfl := Option.some.inj H
      go_wp2_with (first | ((with_reducible refine gate_callee (f := 18) rfl ?_); refine goL (some 89) Tryz.func18 #[] ?_; (with_reducible refine (selvagelaw10_works.calls k2  t539 _ ?side1 A57.out).mono ?_); (case side1 => exact Glob.below hGL (belPut)); rintro e w58 ⟨rfl, hb⟩; refine ⟨_, rfl, ?_⟩; replace HO_3 := Aside0.mk (Kd.R_below (kdUp HO_3.out) hb); replace BK515 := bkD BK515 hb; replace HB := hbD HB hb; clear hb))
      go_ret
      exact ⟨eqEnd, belPut⟩
     replace H := itLn H
     rcases H with ⟨_, _, H⟩ | ⟨-, c52b0, H⟩
     ·cases H
     replace H := itLn H
     rcases H with ⟨_, _, H⟩ | ⟨-, c53b0, H⟩
     ·cases H
     replace H := itE H
     rcases H with ⟨_, _, _, H⟩ | ⟨c54, -, -, H⟩
     ·cases H
     have c54b0 : (!(((rd_T49 t516 x10_2).f0) == ((rd_T49 l0_0 x10_2).f0)) || (!(((rd_T49 t516 x10_2).f1) == ((rd_T49 l0_0 x10_2).f1)) || (!(((rd_T49 t516 x10_2).f2) == ((rd_T49 l0_0 x10_2).f2)) || (!(((rd_T49 t516 x10_2).f3) == ((rd_T49 l0_0 x10_2).f3)))))) = false := by simpa using c54
     clear c54
     have H' := Aside0.mk H
     clear H
     try go_wp2
     replace HO_3 := Aside0.mk (Kd.R_drew HO_3.out)
     replace BK515 := Aside0.mk (blk_drew BK515.out)
     replace HB := Aside0.mk (below_drew1 HB.out)
     have p537 : 0 ≤ (x10_2 : Int) := ofDec
     have q537 : x10_2 < (t516.length : Int) := ofDec
     obtain ⟨ad537, e537, hx537_0, hx537_1, hx537_2, hx537_3⟩ := at_T49 (Kd.R_reads' HO_3.out).2.2 x10_2 p537 q537
     cases e537
     replace p537 := eq_true p537
     replace q537 := eq_true q537
     have p538 : 0 ≤ (x10_2 : Int) := ofDec
     have q538 : x10_2 < (l0_0.length : Int) := ofDec
     obtain ⟨ad538, e538, hx538_0, hx538_1, hx538_2, hx538_3⟩ := at_T49 HR0_0.out x10_2 p538 q538
     have hw538_3 := hx538_3
     have hw538_2 := hx538_2
     have hw538_1 := hx538_1
     have hw538_0 := hx538_0
     cases e538
     replace hx538_0 := cUp HB.out hx538_0
     replace hx538_1 := cUp HB.out hx538_1
     replace hx538_2 := cUp HB.out hx538_2
     replace hx538_3 := cUp HB.out hx538_3
     replace p538 := eq_true p538
     replace q538 := eq_true q538
     refine start_ (n := 10) (S := fun w' => w'.cell? ⟨gb515, 0, none⟩ = some (.slice (some ad538) l0_0.length c0_0) ∧ w'.cell? ⟨gb515, 1, none⟩ = some (.slice A0_1 l0_1.length c0_1) ∧ w'.cell? ⟨gb515, 2, none⟩ = some (.slice A0_2 l0_2.length c0_2) ∧ w'.cell? ⟨gb515, 3, none⟩ = some (.int .i64 a0_3) ∧ w'.cell? (ad537.add ((x10_2).toNat * 4)) = some (.int .i64 ((rd_T49 t516 x10_2).f0)) ∧ w'.cell? ⟨(ad537.add ((x10_2).toNat * 4)).block, (ad537.add ((x10_2).toNat * 4)).off + 1, none⟩ = some (.int .i64 ((rd_T49 t516 x10_2).f1)) ∧ w'.cell? ⟨(ad537.add ((x10_2).toNat * 4)).block, (ad537.add ((x10_2).toNat * 4)).off + 2, none⟩ = some (.int .i64 ((rd_T49 t516 x10_2).f2)) ∧ w'.cell? ⟨(ad537.add ((x10_2).toNat * 4)).block, (ad537.add ((x10_2).toNat * 4)).off + 3, none⟩ = some (.int .i64 ((rd_T49 t516 x10_2).f3)) ∧ w'.cell? (ad538.add ((x10_2).toNat * 4)) = some (.int .i64 ((rd_T49 l0_0 x10_2).f0)) ∧ w'.cell? ⟨(ad538.add ((x10_2).toNat * 4)).block, (ad538.add ((x10_2).toNat * 4)).off + 1, none⟩ = some (.int .i64 ((rd_T49 l0_0 x10_2).f1)) ∧ w'.cell? ⟨(ad538.add ((x10_2).toNat * 4)).block, (ad538.add ((x10_2).toNat * 4)).off + 2, none⟩ = some (.int .i64 ((rd_T49 l0_0 x10_2).f2)) ∧ w'.cell? ⟨(ad538.add ((x10_2).toNat * 4)).block, (ad538.add ((x10_2).toNat * 4)).off + 3, none⟩ = some (.int .i64 ((rd_T49 l0_0 x10_2).f3))) (ds := []) #[false, false, false, false, false, false, false, false, false, false] (by kernel_rfl) rfl rfl ⟨bc BK515 0, bc BK515 1, bc BK515 2, bc BK515 3, hx537_0, hx537_1, hx537_2, hx537_3, (cUp HB.out hw538_0 :), (cUp HB.out hw538_1 :), (cUp HB.out hw538_2 :), (cUp HB.out hw538_3 :)⟩ (fun hHeld => ?_); refine with_tabW selvagelaw10_HunksBuild.tab9 selvagelaw10_HunksBuild.bits9 (fun HT_ HW_ => ?_)
     generalize wr.drew = w56 at HO_3 BK515 HB hx537_0 hx537_1 hx537_2 hx537_3 hx538_0 hx538_1 hx538_2 hx538_3 hHeld ⊢
     refine pureT 0 ?_
     refine pureT 1 ?_
     refine pureT 2 ?_
     refine pureT 4 ?_
     refine pureT 6 ?_
     refine takeT 3 hHeld ?_
     refine takeT 5 hHeld ?_
     refine pureT 7 ?_
     refine takeT 8 hHeld ?_
     refine pureT 9 ?_
     refine done_ (done_of HT_.out (by kernel_rfl)) ?_
     try go_wp2
     go_roundg k2
     case measure => have := HJ6.out; have := HK2.out; omega
     case rel => exact ⟨(wrap64 (x10_2 + 1)), eqNow, H', ⟨by have := HJ6.out; have := HK2.out; omega⟩, ⟨kdMv HO_3⟩, ⟨bkUp BK515.out⟩, ⟨belPut⟩⟩
end Go.Proofs.YtecjoofjiockkaaGreatDoor.Pp
