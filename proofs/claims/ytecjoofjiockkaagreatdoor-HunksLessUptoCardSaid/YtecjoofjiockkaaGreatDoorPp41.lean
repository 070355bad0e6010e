import Derived.Test.YtecjoofjiockkaaGreatDoorESt
import Derived.Test.YtecjoofjiockkaaGreatDoorPp0
import Derived.Test.YtecjoofjiockkaaGreatDoorPp2
import Derived.Test.YtecjoofjiockkaaGreatDoorPp10
import Derived.Test.YtecjoofjiockkaaGreatDoorPp11
import Derived.Test.YtecjoofjiockkaaGreatDoorPp16
import Derived.Test.YtecjoofjiockkaaGreatDoorPp18
import Derived.Test.YtecjoofjiockkaaGreatDoorPp19
import Derived.Test.YtecjoofjiockkaaGreatDoorENarrow
import Derived.Test.YtecjoofjiockkaaGreatDoorEScript
namespace Go.Proofs.YtecjoofjiockkaaGreatDoor.Pp
open Go.RowKit Go.Proofs.YtecjoofjiockkaaGreatDoor.Ext Go.Proofs.YtecjoofjiockkaaGreatDoorW.PrintWords Go.Proofs.YtecjoofjiockkaaGreatDoorW.PrintLast Go.Proofs.YtecjoofjiockkaaGreatDoorW.PrintMore
attribute [local go_sem] max2_int min2_int max_two min_two max_three min_three max_four min_four   -- for this text's walks alone
set_option linter.unusedVariables false
set_option linter.unusedSimpArgs false
attribute [local go_sem high] eqA49
mutual
def selvagelaw10_HunksLess.j0 : Nat → Int → List (S29) → List (S29) → Bool → List (S49) → List ByteArray → List ByteArray → Int → Option (Bool)
 | 0, _, _, _, _, _, _, _, _ => none
 | k + 1, x1, x5, x7, x59, x961000, x961001, x961002, x961003 => if x59 = true then ((selvagelaw10_works.f k).bind fun t989 => (some t989)) else (selvagelaw10_HunksLess.l0 k x1 x5 x7 ([] : List (S29)) 0 x961000 x961001 x961002 x961003)
def selvagelaw10_HunksLess.l0 : Nat → Int → List (S29) → List (S29) → List (S29) → Int → List (S49) → List ByteArray → List ByteArray → Int → Option (Bool)
 | 0, _, _, _, _, _, _, _, _, _ => none
 | k + 1, x1, x5, x7, x9, x10, x961000, x961001, x961002, x961003 => if x10 < (x5.length : Int) then (if 0 ≤ x10 then ((hunks_Narrow.f k ((rd_T29 x5 x10).f0) ((rd_T29 x5 x10).f1) ((rd_T29 x5 x10).f2) ((rd_T29 x5 x10).f3) ((rd_T29 x5 x10).f4) ((rd_T29 x5 x10).f5) x1).bind fun bt991 => ((hunks_Narrow.f k ((rd_T29 x5 x10).f0) ((rd_T29 x5 x10).f1) ((rd_T29 x5 x10).f2) ((rd_T29 x5 x10).f3) ((rd_T29 x5 x10).f4) ((rd_T29 x5 x10).f5) x961003).bind fun bt996 => (if bt991.2.isNone = true then (if bt996.2.isNone = true then (if (bt996.1.length : Int) = 1 then (if 0 < (bt996.1.length : Int) then ((selvagelaw10_same.f k ((rd_T29 bt996.1 0).f0) ((rd_T29 bt996.1 0).f1) ((rd_T29 bt996.1 0).f2) ((rd_T29 bt996.1 0).f3) ((rd_T29 bt996.1 0).f4) ((rd_T29 bt996.1 0).f5) ((rd_T29 x5 x10).f0) ((rd_T29 x5 x10).f1) ((rd_T29 x5 x10).f2) ((rd_T29 x5 x10).f3) ((rd_T29 x5 x10).f4) ((rd_T29 x5 x10).f5)).bind fun t1004 => (if t1004 = true then (if x9.length + bt991.1.length < 1954687338268 then (selvagelaw10_HunksLess.l0 k x1 x5 x7 (x9 ++ bt991.1) (wrap64 (x10 + 1)) x961000 x961001 x961002 x961003) else (none)) else (none))) else (none)) else (none)) else (none)) else (none)))) else (none)) else ((hunks_Script.f k x5 (x961001.length : Int) (x961002.length : Int)).bind fun bt1008 => ((hunks_Script.f k x9 (x961001.length : Int) (x961002.length : Int)).bind fun bt1012 => (if bt1008.2.isNone = true then (if bt1012.2.isNone = true then (selvagelaw10_HunksLess.j2 k x7 x9 bt1008.1 bt1012.1 ((bt1008.1.length : Int) != (bt1012.1.length : Int))) else (selvagelaw10_HunksLess.j2 k x7 x9 bt1008.1 bt1012.1 true)) else (selvagelaw10_HunksLess.j2 k x7 x9 bt1008.1 bt1012.1 true))))
def selvagelaw10_HunksLess.j2 : Nat → List (S29) → List (S29) → List (S49) → List (S49) → Bool → Option (Bool)
 | 0, _, _, _, _, _ => none
 | k + 1, x7, x9, x15, x17, x145 => if x145 = true then (none) else (selvagelaw10_HunksLess.l1 k x7 x9 x15 x17 0)
def selvagelaw10_HunksLess.l1 : Nat → List (S29) → List (S29) → List (S49) → List (S49) → Int → Option (Bool)
 | 0, _, _, _, _, _ => none
 | k + 1, x7, x9, x15, x17, x19 => if x19 < (x15.length : Int) then (if 0 ≤ x19 then (if x19 < (x17.length : Int) then (if (!(((rd_T49 x15 x19).f0) == ((rd_T49 x17 x19).f0)) || (!(((rd_T49 x15 x19).f1) == ((rd_T49 x17 x19).f1)) || (!(((rd_T49 x15 x19).f2) == ((rd_T49 x17 x19).f2)) || (!(((rd_T49 x15 x19).f3) == ((rd_T49 x17 x19).f3)))))) = true then (none) else (selvagelaw10_HunksLess.l1 k x7 x9 x15 x17 (wrap64 (x19 + 1)))) else (none)) else (none)) else ((selvagelaw10_sameAll.f k x9 x7).bind fun t1020 => (if t1020 = true then ((selvagelaw10_works.f k).bind fun t1021 => (some t1021)) else (none)))
end
def selvagelaw10_HunksLess.f (k : Nat) (l0_0 : List (S49)) (l0_1 : List ByteArray) (l0_2 : List ByteArray) (a0_3 : Int) (a1 : Int) : Option (Bool) := (selvagelaw10_changes.f l0_0).bind fun t961 => ((selvagelaw10_texts.f l0_1).bind fun t964 => ((selvagelaw10_texts.f l0_2).bind fun t967 => ((hunks_Build.f k t961 t964 t967 a0_3).bind fun bt970 => ((selvagelaw10_changes.f l0_0).bind fun t974 => ((selvagelaw10_texts.f l0_1).bind fun t977 => ((selvagelaw10_texts.f l0_2).bind fun t980 => ((hunks_Build.f k t974 t977 t980 (mx 0 (mn a1 a0_3))).bind fun bt983 => (if bt970.2.isNone = true then (if bt983.2.isNone = true then (selvagelaw10_HunksLess.j0 k (mx 0 (mn a1 a0_3)) bt970.1 bt983.1 false l0_0 l0_1 l0_2 a0_3) else (selvagelaw10_HunksLess.j0 k (mx 0 (mn a1 a0_3)) bt970.1 bt983.1 true l0_0 l0_1 l0_2 a0_3)) else (selvagelaw10_HunksLess.j0 k (mx 0 (mn a1 a0_3)) bt970.1 bt983.1 true l0_0 l0_1 l0_2 a0_3)))))))))
def selvagelaw10_HunksLess.T1 : Bool × List (List Nat × List Nat) := (true, [([], []), ([0], [0]), ([1], [1]), ([], []), ([3], [3]), ([4, 2], [4]), ([], []), ([6], [6]), ([7, 5], [7]), ([], []), ([9], [9]), ([2, 5, 8, 10, 8], [2, 5, 8, 10]), ([11], [11]), ([12], [12]), ([12], [12]), ([13, 11, 0, 1, 2, 3, 4, 5, 6, 7, 8, 9, 10, 11, 12, 13], [13]), ([14, 15, 0, 1, 2, 3, 4, 5, 6, 7, 8, 9, 10, 11, 12, 13, 14, 15], [14])])
def selvagelaw10_HunksLess.B1 : List Nat := [0, 1, 3, 0, 8, 31, 0, 64, 255, 0, 512, 2047, 4095, 8191, 8191, 16383, 65535]
theorem selvagelaw10_HunksLess.tab1 : rtab .any (opsOf Tryz.f9 1) = selvagelaw10_HunksLess.T1 := by kernel_rfl
theorem selvagelaw10_HunksLess.bits1 : waitsOk selvagelaw10_HunksLess.T1.2 selvagelaw10_HunksLess.B1 = true := by kernel_rfl
def selvagelaw10_HunksLess.T3 : Bool × List (List Nat × List Nat) := (true, [([], []), ([0], [0]), ([1], [1]), ([], []), ([3], [3]), ([4, 2], [4]), ([], []), ([6], [6]), ([7, 5], [7]), ([], []), ([2, 5, 8, 9, 8], [2, 5, 8, 9]), ([10], [10]), ([11], [11]), ([11], [11]), ([12, 10, 0, 1, 2, 3, 4, 5, 6, 7, 8, 9, 10, 11, 12], [12]), ([13, 14, 0, 1, 2, 3, 4, 5, 6, 7, 8, 9, 10, 11, 12, 13, 14], [13])])
def selvagelaw10_HunksLess.B3 : List Nat := [0, 1, 3, 0, 8, 31, 0, 64, 255, 0, 1023, 2047, 4095, 4095, 8191, 32767]
theorem selvagelaw10_HunksLess.tab3 : rtab .any (opsOf Tryz.f9 3) = selvagelaw10_HunksLess.T3 := by kernel_rfl
theorem selvagelaw10_HunksLess.bits3 : waitsOk selvagelaw10_HunksLess.T3.2 selvagelaw10_HunksLess.B3 = true := by kernel_rfl
def selvagelaw10_HunksLess.T11 : Bool × List (List Nat × List Nat) := (true, [([], []), ([], []), ([0, 1], [0, 1]), ([2], [2]), ([], []), ([4], [4]), ([3, 5], [3, 5]), ([6], [6]), ([7], [7]), ([7], [7]), ([8, 6, 0, 1, 2, 3, 4, 5, 6, 7, 8], [8]), ([9, 10, 0, 1, 2, 3, 4, 5, 6, 7, 8, 9, 10], [9])])
def selvagelaw10_HunksLess.B11 : List Nat := [0, 0, 3, 7, 0, 16, 63, 127, 255, 255, 511, 2047]
theorem selvagelaw10_HunksLess.tab11 : rtab .any (opsOf Tryz.f9 11) = selvagelaw10_HunksLess.T11 := by kernel_rfl
theorem selvagelaw10_HunksLess.bits11 : waitsOk selvagelaw10_HunksLess.T11.2 selvagelaw10_HunksLess.B11 = true := by kernel_rfl
def selvagelaw10_HunksLess.T12 : Bool × List (List Nat × List Nat) := (true, [([], []), ([0], [0]), ([1], [1]), ([2], [2]), ([3, 2], [2, 3]), ([2, 4], [2, 4]), ([5, 2], [5]), ([6], [6]), ([7, 6], [6, 7]), ([8, 6], [6, 8]), ([6, 9], [6, 9]), ([10, 6], [10]), ([11], [11]), ([12, 11], [11, 12]), ([13, 11], [11, 13]), ([11], [11]), ([11], [11]), ([15, 16, 11], [11, 15, 16]), ([17, 11], [11, 17]), ([14, 18, 11, 11], [11, 14, 18]), ([19, 11], [11, 19]), ([11, 20], [11, 20])])
def selvagelaw10_HunksLess.B12 : List Nat := [0, 1, 3, 7, 15, 31, 63, 127, 255, 511, 1023, 2047, 4095, 8191, 16383, 4095, 4095, 102399, 233471, 524287, 1048575, 2097151]
theorem selvagelaw10_HunksLess.tab12 : rtab .any (opsOf Tryz.f9 12) = selvagelaw10_HunksLess.T12 := by kernel_rfl
theorem selvagelaw10_HunksLess.bits12 : waitsOk selvagelaw10_HunksLess.T12.2 selvagelaw10_HunksLess.B12 = true := by kernel_rfl
def selvagelaw10_HunksLess.T22 : Bool × List (List Nat × List Nat) := (true, [([], []), ([], []), ([0, 1], [0, 1]), ([2], [2]), ([], []), ([], []), ([4, 5], [4, 5]), ([6], [6]), ([3, 7], [3, 7])])
def selvagelaw10_HunksLess.B22 : List Nat := [0, 0, 3, 7, 0, 0, 48, 112, 255]
theorem selvagelaw10_HunksLess.tab22 : rtab .any (opsOf Tryz.f9 22) = selvagelaw10_HunksLess.T22 := by kernel_rfl
theorem selvagelaw10_HunksLess.bits22 : waitsOk selvagelaw10_HunksLess.T22.2 selvagelaw10_HunksLess.B22 = true := by kernel_rfl
set_option maxHeartbeats 80000000 in
set_option maxRecDepth 100000 in
theorem selvagelaw10_HunksLess.calls (k : Nat) (A0_0 : Option Addr) (c0_0 : Nat) (l0_0 : List (S49)) (A0_1 : Option Addr) (c0_1 : Nat) (l0_1 : List ByteArray) (A0_2 : Option Addr) (c0_2 : Nat) (l0_2 : List ByteArray) (a0_3 : Int) (a1 : Int) (r : Bool) (w : World) (hr0_0 : Kd.C k49 w A0_0 l0_0.length l0_0) (hc0_0 : l0_0.length ≤ c0_0) (hr0_1 : Kd.C Kd.string w A0_1 l0_1.length l0_1) (hc0_1 : l0_1.length ≤ c0_1) (hr0_2 : Kd.C Kd.string w A0_2 l0_2.length l0_2) (hc0_2 : l0_2.length ≤ c0_2) (hGL : Glob w) (h : selvagelaw10_HunksLess.f k l0_0 l0_1 l0_2 a0_3 a1 = some r) :
  Calls Tryz.prog 9 #[.agg #[.slice A0_0 l0_0.length c0_0, .slice A0_1 l0_1.length c0_1, .slice A0_2 l0_2.length c0_2, .int .i64 a0_3], .int .i64 a1] w fun e w' => e = .returned (.bool r) ∧ Below w.heap.size w w' := by
 have hu40 := Tryz.underlying40
 have hu29 := Tryz.underlying29
 have hu49 := Tryz.underlying49
 have hu25 := Tryz.underlying25
 have hu73 := Tryz.underlying73
 have HR0_0 := Aside0.mk hr0_0
 have HC0_0 := Aside0.mk hc0_0
 clear hr0_0 hc0_0
 have HR0_1 := Aside0.mk hr0_1
 have HC0_1 := Aside0.mk hc0_1
 clear hr0_1 hc0_1
 have HR0_2 := Aside0.mk hr0_2
 have HC0_2 := Aside0.mk hc0_2
 clear hr0_2 hc0_2
 have HB := Aside0.mk (Below.refl w.heap.size w)
 have H := h
 clear h
 unfold selvagelaw10_HunksLess.f at H
 replace H := bdS H
 obtain ⟨t961, A3, H⟩ := H
 replace H := bdS H
 obtain ⟨t964, A4, H⟩ := H
 replace H := bdS H
 obtain ⟨t967, A5, H⟩ := H
 replace H := bdS H
 obtain ⟨⟨t970, t971⟩, A6, H⟩ := H
 replace H : ((selvagelaw10_changes.f l0_0).bind fun t974 => ((selvagelaw10_texts.f l0_1).bind fun t977 => ((selvagelaw10_texts.f l0_2).bind fun t980 => ((hunks_Build.f k t974 t977 t980 (mx 0 (mn a1 a0_3))).bind fun bt983 => (if t971.isNone = true then (if bt983.2.isNone = true then (selvagelaw10_HunksLess.j0 k (mx 0 (mn a1 a0_3)) t970 bt983.1 false l0_0 l0_1 l0_2 a0_3) else (selvagelaw10_HunksLess.j0 k (mx 0 (mn a1 a0_3)) t970 bt983.1 true l0_0 l0_1 l0_2 a0_3)) else (selvagelaw10_HunksLess.j0 k (mx 0 (mn a1 a0_3)) t970 bt983.1 true l0_0 l0_1 l0_2 a0_3)))))) = some r := H
 obtain ⟨ji7, hji7⟩ : ∃ j_ : Int, (mn a1 a0_3) = j_ := ⟨_, rfl⟩
 first | rw [hji7] at H | simp only [hji7] at H
 (try rw [hji7] at A3)
 (try rw [hji7] at A4)
 (try rw [hji7] at A5)
 (try rw [hji7] at A6)
 have hji7_ : (if a0_3 < a1 then a0_3 else a1) = ji7 := hji7
 obtain ⟨ji8, hji8⟩ : ∃ j_ : Int, (mx 0 (ji7)) = j_ := ⟨_, rfl⟩
 first | rw [hji8] at H | simp only [hji8] at H
 (try rw [hji8] at A3)
 (try rw [hji8] at A4)
 (try rw [hji8] at A5)
 (try rw [hji8] at A6)
 have hji8_ : (if 0 < (ji7) then (ji7) else 0) = ji8 := hji8
 replace H := bdS H
 obtain ⟨t974, A9, H⟩ := H
 replace H := bdS H
 obtain ⟨t977, A10, H⟩ := H
 replace H := bdS H
 obtain ⟨t980, A11, H⟩ := H
 replace H := bdS H
 obtain ⟨⟨t983, t984⟩, A12, H⟩ := H
 replace H : (if t971.isNone = true then (if t984.isNone = true then (selvagelaw10_HunksLess.j0 k ji8 t970 t983 false l0_0 l0_1 l0_2 a0_3) else (selvagelaw10_HunksLess.j0 k ji8 t970 t983 true l0_0 l0_1 l0_2 a0_3)) else (selvagelaw10_HunksLess.j0 k ji8 t970 t983 true l0_0 l0_1 l0_2 a0_3)) = some r := H
 have HC13 := Aside0.mk H
 clear H
 go_enter Tryz.func9, Tryz.ntmps9
 try simp only [List.append_eq, List.cons_append, List.nil_append]
 try go_wp2_with (first | ((with_reducible refine gate_dst (N := 2) rfl ?_); (try (refine gate_guard (by rfl) ?_; dsimp only)); refine boxEv (N := 2) #[.slice A0_0 l0_0.length c0_0, .slice A0_1 l0_1.length c0_1, .slice A0_2 l0_2.length c0_2, .int .i64 a0_3] 40 ?_; intro gb960 hg w14 hbox hb; have BK960 := Aside0.mk hbox; have GW960 := gwN HB hg; have GE960 := GW960; replace HB := hbD HB hb; clear hb hbox hg))
 replace BK960 := Aside0.mk (blk_drew BK960.out)
 replace HB := Aside0.mk (below_drew1 HB.out)
 refine start_ (n := 17) (S := fun w' => w'.cell? ⟨gb960, 0, none⟩ = some (.slice A0_0 l0_0.length c0_0) ∧ w'.cell? ⟨gb960, 1, none⟩ = some (.slice A0_1 l0_1.length c0_1) ∧ w'.cell? ⟨gb960, 2, none⟩ = some (.slice A0_2 l0_2.length c0_2) ∧ w'.cell? ⟨gb960, 3, none⟩ = some (.int .i64 a0_3)) (ds := []) #[false, false, false, false, false, false, false, false, false, false, false, false, false, false, false, false, false] (by kernel_rfl) rfl rfl ⟨bc BK960 0, bc BK960 1, bc BK960 2, bc BK960 3⟩ (fun hHeld => ?_); refine with_tabW selvagelaw10_HunksLess.tab1 selvagelaw10_HunksLess.bits1 (fun HT_ HW_ => ?_)
 generalize w14.drew = w15 at BK960 HB hHeld ⊢
 refine pureT 0 ?_
 refine pureT 3 ?_
 refine pureT 6 ?_
 refine pureT 9 ?_
 refine takeT 1 hHeld ?_
 refine takeT 4 hHeld ?_
 refine takeT 7 hHeld ?_
 refine takeT 10 hHeld ?_
 refine one_ (i := 2) (N := some 23) #[true, true, true, true, true, false, true, true, false, true, true, false, false, false, false, false, false] rfl rfl (one_of HT_.out (by kernel_rfl)) (by decide) (fun K hK => ?_)
 refine goes_ Tryz.func19 (by kernel_rfl) rfl #[.slice A0_0 l0_0.length c0_0] (by rfl) rfl rfl argsOk ?_
 with_reducible refine (selvagelaw10_changes.calls _ _ l0_0 t961 _ ?side1 ?side2 A3.out).mono ?_
 (case side1 => exact kcU HR0_0 HB)
 (case side2 => exact HC0_0.out)
 rintro e w16 ⟨v962, rfl, ho0, hb⟩
 refine ⟨_, rfl, ?_⟩
 have HO963 := Aside0.mk (Kd.R_lower ho0 (below_size (belPut)))
 replace BK960 := bkD BK960 hb
 replace HB := hbD HB hb
 (try clear hb)
 (try clear hb2)
 (try clear hk)
 (try clear hi)
 (try clear ho0)
 refine hK.out _ _ ⟨bc BK960 0, bc BK960 1, bc BK960 2, bc BK960 3⟩ (fun hHeld => ?_)
 clear hK K
 refine norm_ (a' := ?_) ?_ ?_
 rotate_left
 ·show Act.put _ (some 23) _ = _
  simp only [Act.put, List.setIfInBounds_toArray, List.set_cons_zero, List.set_cons_succ, i64_w, i32_w]
  rfl
 refine one_ (i := 5) (N := some 26) #[true, true, true, true, true, true, true, true, false, true, true, false, false, false, false, false, false] rfl rfl (one_of HT_.out (by kernel_rfl)) (by decide) (fun K hK => ?_)
 refine goes_ Tryz.func20 (by kernel_rfl) rfl #[.slice A0_1 l0_1.length c0_1] (by rfl) rfl rfl argsOk ?_
 with_reducible refine (selvagelaw10_texts.calls _ _ l0_1 t964 _ ?side1 ?side2 A4.out).mono ?_
 (case side1 => exact kcU HR0_1 HB)
 (case side2 => exact HC0_1.out)
 rintro e w17 ⟨v965, rfl, ho0, hb⟩
 refine ⟨_, rfl, ?_⟩
 replace HO963 := Aside0.mk (Kd.R_below (kdUp HO963.out) hb)
 have HO966 := Aside0.mk (Kd.R_lower ho0 (below_size (belPut)))
 replace BK960 := bkD BK960 hb
 replace HB := hbD HB hb
 (try clear hb)
 (try clear hb2)
 (try clear hk)
 (try clear hi)
 (try clear ho0)
 refine hK.out _ _ ⟨bc BK960 0, bc BK960 1, bc BK960 2, bc BK960 3⟩ (fun hHeld => ?_)
 clear hK K
 refine norm_ (a' := ?_) ?_ ?_
 rotate_left
 ·show Act.put _ (some 26) _ = _
  simp only [Act.put, List.setIfInBounds_toArray, List.set_cons_zero, List.set_cons_succ, i64_w, i32_w]
  rfl
 refine one_ (i := 8) (N := some 29) #[true, true, true, true, true, true, true, true, true, true, true, false, false, false, false, false, false] rfl rfl (one_of HT_.out (by kernel_rfl)) (by decide) (fun K hK => ?_)
 refine goes_ Tryz.func20 (by kernel_rfl) rfl #[.slice A0_2 l0_2.length c0_2] (by rfl) rfl rfl argsOk ?_
 with_reducible refine (selvagelaw10_texts.calls _ _ l0_2 t967 _ ?side1 ?side2 A5.out).mono ?_
 (case side1 => exact kcU HR0_2 HB)
 (case side2 => exact HC0_2.out)
 rintro e w18 ⟨v968, rfl, ho0, hb⟩
 refine ⟨_, rfl, ?_⟩
 replace HO963 := Aside0.mk (Kd.R_below (kdUp HO963.out) hb)
 have HO969 := Aside0.mk (Kd.R_lower (Kd.R_new' ho0 (Kd.R_lt (kdUp HO966.out))) (below_size (belPut)))
 replace HO966 := Aside0.mk (Kd.R_elder' (kdUp HO966.out) (Kd.R_base ho0) hb)
 replace BK960 := bkD BK960 hb
 replace HB := hbD HB hb
 (try clear hb)
 (try clear hb2)
 (try clear hk)
 (try clear hi)
 (try clear ho0)
 obtain ⟨Ao19, co19, eo19⟩ := Kd.R_slice HO963.out
 (first | subst eo19 | (injection eo19 with f1_ f2_ f3_; have f4_ := f1_.symm; have f5_ := f3_.symm; clear f1_ f2_ f3_; subst f4_; subst f5_))
 obtain ⟨Ao20, co20, eo20⟩ := Kd.R_slice HO966.out
 (first | subst eo20 | (injection eo20 with f1_ f2_ f3_; have f4_ := f1_.symm; have f5_ := f3_.symm; clear f1_ f2_ f3_; subst f4_; subst f5_))
 obtain ⟨Ao21, co21, eo21⟩ := Kd.R_slice HO969.out
 (first | subst eo21 | (injection eo21 with f1_ f2_ f3_; have f4_ := f1_.symm; have f5_ := f3_.symm; clear f1_ f2_ f3_; subst f4_; subst f5_))
 refine hK.out _ _ ⟨bc BK960 0, bc BK960 1, bc BK960 2, bc BK960 3⟩ (fun hHeld => ?_)
 clear hK K
 refine norm_ (a' := ?_) ?_ ?_
 rotate_left
 ·show Act.put _ (some 29) _ = _
  simp only [Act.put, List.setIfInBounds_toArray, List.set_cons_zero, List.set_cons_succ, i64_w, i32_w]
  rfl
 refine one_ (i := 11) (N := some 32) #[true, true, true, true, true, true, true, true, true, true, true, true, false, false, false, false, false] rfl rfl (one_of HT_.out (by kernel_rfl)) (by decide) (fun K hK => ?_)
 refine goes_ Tryz.func21 (by kernel_rfl) rfl #[.slice Ao19 t961.length co19, .slice Ao20 t964.length co20, .slice Ao21 t967.length co21, .int .i64 a0_3] (by rfl) rfl rfl argsOk ?_
 with_reducible refine (hunks_Build.calls k _ _ t961 _ _ t964 _ _ t967 a0_3 t970 t971 _ ?side1 ?side2 ?side3 ?side4 ?side5 ?side6 A6.out).mono ?_
 (case side1 => repeat (first | exact (Kd.R_reads' HO963.out).2.2 | (with_reducible refine Kd.C_alloc ?_ _) | (with_reducible refine Kd.C_drewN ?_ _) | (with_reducible refine Kd.C_drew ?_)))
 (case side2 => exact (Kd.R_reads' HO963.out).2.1)
 (case side3 => repeat (first | exact (Kd.R_reads' HO966.out).2.2 | (with_reducible refine Kd.C_alloc ?_ _) | (with_reducible refine Kd.C_drewN ?_ _) | (with_reducible refine Kd.C_drew ?_)))
 (case side4 => exact (Kd.R_reads' HO966.out).2.1)
 (case side5 => repeat (first | exact (Kd.R_reads' HO969.out).2.2 | (with_reducible refine Kd.C_alloc ?_ _) | (with_reducible refine Kd.C_drewN ?_ _) | (with_reducible refine Kd.C_drew ?_)))
 (case side6 => exact (Kd.R_reads' HO969.out).2.1)
 rintro e w22 ⟨v972, rfl, ho0, hb⟩
 refine ⟨_, rfl, ?_⟩
 have HO973 := Aside0.mk (Kd.N_lower (Kd.N_mono (ok' := fun k_ => some k_ ≠ (.slice Ao19 t961.length co19 : Value).ownBlock ∧ some k_ ≠ (.slice Ao20 t964.length co20 : Value).ownBlock ∧ some k_ ≠ (.slice Ao21 t967.length co21 : Value).ownBlock ∧ k_ ≠ gb960) (Kd.S_N (Kd.S_bound ho0)) (fun k_ hk_ => ⟨(Kd.fresh' (Kd.R_lt (kdUp HO963.out)) k_ hk_.2.1), (Kd.fresh' (Kd.R_lt (kdUp HO966.out)) k_ hk_.2.1), (Kd.fresh' (Kd.R_lt (kdUp HO969.out)) k_ hk_.2.1), (Kd.freshB (g := gb960) (o := .cells #[.slice A0_0 l0_0.length c0_0, .slice A0_1 l0_1.length c0_1, .slice A0_2 l0_2.length c0_2, .int .i64 a0_3] 40 (0, 0)) (bkUp BK960.out) k_ hk_.2.1)⟩)) (below_size (belPut)))
 replace HO963 := Aside0.mk (Kd.R_below (kdUp HO963.out) hb)
 replace HO966 := Aside0.mk (Kd.R_below (kdUp HO966.out) hb)
 replace HO969 := Aside0.mk (Kd.R_below (kdUp HO969.out) hb)
 replace BK960 := bkD BK960 hb
 replace HB := hbD HB hb
 (try clear hb)
 (try clear hb2)
 (try clear hk)
 (try clear hi)
 (try clear ho0)
 (try simp only [errW_none, errW_some])
 refine hK.out _ _ ⟨bc BK960 0, bc BK960 1, bc BK960 2, bc BK960 3⟩ (fun hHeld => ?_)
 clear hK K
 refine norm_ (a' := ?_) ?_ ?_
 rotate_left
 ·show Act.put _ (some 32) _ = _
  simp only [Act.put, List.setIfInBounds_toArray, List.set_cons_zero, List.set_cons_succ, i64_w, i32_w]
  rfl
 refine pureT 12 ?_
 refine pureT 13 ?_
 refine pureT 14 ?_
 refine pureT 15 ?_
 refine pureT 16 ?_
 refine done_ (done_of HT_.out (by kernel_rfl)) ?_
 have hcz23_0 := bkc (v := .slice A0_0 l0_0.length c0_0) BK960.out 0 rfl
 have hcz23_1 := bkc (v := .slice A0_1 l0_1.length c0_1) BK960.out 1 rfl
 have hcz23_2 := bkc (v := .slice A0_2 l0_2.length c0_2) BK960.out 2 rfl
 have hcz23_3 := bkc (v := .int .i64 a0_3) BK960.out 3 rfl
 have hfz23_0 := blk_frozen BK960.out 0
 have hfz23_1 := blk_frozen BK960.out 1
 have hfz23_2 := blk_frozen BK960.out 2
 have hfz23_3 := blk_frozen BK960.out 3
 try go_wp2
 replace HO963 := Aside0.mk (Kd.R_drew HO963.out)
 replace HO966 := Aside0.mk (Kd.R_drew HO966.out)
 replace HO969 := Aside0.mk (Kd.R_drew HO969.out)
 replace HO973 := Aside0.mk (Kd.N_drew HO973.out)
 replace BK960 := Aside0.mk (blk_drew BK960.out)
 replace HB := Aside0.mk (below_drew1 HB.out)
 refine start_ (n := 16) (S := fun w' => w'.cell? ⟨gb960, 0, none⟩ = some (.slice A0_0 l0_0.length c0_0) ∧ w'.cell? ⟨gb960, 1, none⟩ = some (.slice A0_1 l0_1.length c0_1) ∧ w'.cell? ⟨gb960, 2, none⟩ = some (.slice A0_2 l0_2.length c0_2) ∧ w'.cell? ⟨gb960, 3, none⟩ = some (.int .i64 a0_3)) (ds := []) #[false, false, false, false, false, false, false, false, false, false, false, false, false, false, false, false] (by kernel_rfl) rfl rfl ⟨bc BK960 0, bc BK960 1, bc BK960 2, bc BK960 3⟩ (fun hHeld => ?_); refine with_tabW selvagelaw10_HunksLess.tab3 selvagelaw10_HunksLess.bits3 (fun HT_ HW_ => ?_)
 generalize w22.drew = w24 at HO963 HO966 HO969 HO973 BK960 HB hHeld ⊢
 refine pureT 0 ?_
 refine pureT 3 ?_
 refine pureT 6 ?_
 refine pureT 9 ?_
 refine takeT 1 hHeld ?_
 refine takeT 4 hHeld ?_
 refine takeT 7 hHeld ?_
 refine one_ (i := 2) (N := some 43) #[true, true, true, true, true, false, true, true, false, true, false, false, false, false, false, false] rfl rfl (one_of HT_.out (by kernel_rfl)) (by decide) (fun K hK => ?_)
 refine goes_ Tryz.func19 (by kernel_rfl) rfl #[.slice A0_0 l0_0.length c0_0] (by rfl) rfl rfl argsOk ?_
 with_reducible refine (selvagelaw10_changes.calls _ _ l0_0 t974 _ ?side1 ?side2 A9.out).mono ?_
 (case side1 => exact kcU HR0_0 HB)
 (case side2 => exact HC0_0.out)
 rintro e w25 ⟨v975, rfl, ho0, hb⟩
 refine ⟨_, rfl, ?_⟩
 replace HO966 := Aside0.mk (Kd.R_below (kdUp HO966.out) hb)
 replace HO969 := Aside0.mk (Kd.R_below (kdUp HO969.out) hb)
 replace HO973 := Aside0.mk (Kd.N_elder' (by (with_reducible repeat (first | apply Kd.N_alloc | apply Kd.N_drewN | apply Kd.N_drew)); exact HO973.out) (Kd.R_base ho0) hb)
 have HO976 := Aside0.mk (Kd.R_lower (Kd.R_new' ho0 (Kd.R_lt (kdUp HO963.out))) (below_size (belPut)))
 replace HO963 := Aside0.mk (Kd.R_elder' (kdUp HO963.out) (Kd.R_base ho0) hb)
 replace BK960 := bkD BK960 hb
 replace HB := hbD HB hb
 (try clear hb)
 (try clear hb2)
 (try clear hk)
 (try clear hi)
 (try clear ho0)
 refine hK.out _ _ ⟨bc BK960 0, bc BK960 1, bc BK960 2, bc BK960 3⟩ (fun hHeld => ?_)
 clear hK K
 refine norm_ (a' := ?_) ?_ ?_
 rotate_left
 ·show Act.put _ (some 43) _ = _
  simp only [Act.put, List.setIfInBounds_toArray, List.set_cons_zero, List.set_cons_succ, i64_w, i32_w]
  rfl
 refine one_ (i := 5) (N := some 46) #[true, true, true, true, true, true, true, true, false, true, false, false, false, false, false, false] rfl rfl (one_of HT_.out (by kernel_rfl)) (by decide) (fun K hK => ?_)
 refine goes_ Tryz.func20 (by kernel_rfl) rfl #[.slice A0_1 l0_1.length c0_1] (by rfl) rfl rfl argsOk ?_
 with_reducible refine (selvagelaw10_texts.calls _ _ l0_1 t977 _ ?side1 ?side2 A10.out).mono ?_
 (case side1 => exact kcU HR0_1 HB)
 (case side2 => exact HC0_1.out)
 rintro e w26 ⟨v978, rfl, ho0, hb⟩
 refine ⟨_, rfl, ?_⟩
 replace HO963 := Aside0.mk (Kd.R_below (kdUp HO963.out) hb)
 replace HO973 := Aside0.mk (Kd.N_elder' (by (with_reducible repeat (first | apply Kd.N_alloc | apply Kd.N_drewN | apply Kd.N_drew)); exact HO973.out) (Kd.R_base ho0) hb)
 replace HO976 := Aside0.mk (Kd.R_below (kdUp HO976.out) hb)
 have HO979 := Aside0.mk (Kd.R_lower (Kd.R_new' (Kd.R_new' ho0 (Kd.R_lt (kdUp HO966.out))) (Kd.R_lt (kdUp HO969.out))) (below_size (belPut)))
 replace HO966 := Aside0.mk (Kd.R_elder' (kdUp HO966.out) (Kd.R_base ho0) hb)
 replace HO969 := Aside0.mk (Kd.R_elder' (kdUp HO969.out) (Kd.R_base ho0) hb)
 replace BK960 := bkD BK960 hb
 replace HB := hbD HB hb
 (try clear hb)
 (try clear hb2)
 (try clear hk)
 (try clear hi)
 (try clear ho0)
 refine hK.out _ _ ⟨bc BK960 0, bc BK960 1, bc BK960 2, bc BK960 3⟩ (fun hHeld => ?_)
 clear hK K
 refine norm_ (a' := ?_) ?_ ?_
 rotate_left
 ·show Act.put _ (some 46) _ = _
  simp only [Act.put, List.setIfInBounds_toArray, List.set_cons_zero, List.set_cons_succ, i64_w, i32_w]
  rfl
 refine one_ (i := 8) (N := some 49) #[true, true, true, true, true, true, true, true, true, true, false, false, false, false, false, false] rfl rfl (one_of HT_.out (by kernel_rfl)) (by decide) (fun K hK => ?_)
 refine goes_ Tryz.func20 (by kernel_rfl) rfl #[.slice A0_2 l0_2.length c0_2] (by rfl) rfl rfl argsOk ?_
 with_reducible refine (selvagelaw10_texts.calls _ _ l0_2 t980 _ ?side1 ?side2 A11.out).mono ?_
 (case side1 => exact kcU HR0_2 HB)
 (case side2 => exact HC0_2.out)
 rintro e w27 ⟨v981, rfl, ho0, hb⟩
 refine ⟨_, rfl, ?_⟩
 replace HO963 := Aside0.mk (Kd.R_below (kdUp HO963.out) hb)
 replace HO973 := Aside0.mk (Kd.N_elder' (by (with_reducible repeat (first | apply Kd.N_alloc | apply Kd.N_drewN | apply Kd.N_drew)); exact HO973.out) (Kd.R_base ho0) hb)
 replace HO976 := Aside0.mk (Kd.R_below (kdUp HO976.out) hb)
 have HO982 := Aside0.mk (Kd.R_lower (Kd.R_new' (Kd.R_new' (Kd.R_new' ho0 (Kd.R_lt (kdUp HO966.out))) (Kd.R_lt (kdUp HO969.out))) (Kd.R_lt (kdUp HO979.out))) (below_size (belPut)))
 replace HO966 := Aside0.mk (Kd.R_elder' (kdUp HO966.out) (Kd.R_base ho0) hb)
 replace HO969 := Aside0.mk (Kd.R_elder' (kdUp HO969.out) (Kd.R_base ho0) hb)
 replace HO979 := Aside0.mk (Kd.R_elder' (kdUp HO979.out) (Kd.R_base ho0) hb)
 replace BK960 := bkD BK960 hb
 replace HB := hbD HB hb
 (try clear hb)
 (try clear hb2)
 (try clear hk)
 (try clear hi)
 (try clear ho0)
 obtain ⟨Ao28, co28, eo28⟩ := Kd.R_slice HO976.out
 (first | subst eo28 | (injection eo28 with f1_ f2_ f3_; have f4_ := f1_.symm; have f5_ := f3_.symm; clear f1_ f2_ f3_; subst f4_; subst f5_))
 obtain ⟨Ao29, co29, eo29⟩ := Kd.R_slice HO979.out
 (first | subst eo29 | (injection eo29 with f1_ f2_ f3_; have f4_ := f1_.symm; have f5_ := f3_.symm; clear f1_ f2_ f3_; subst f4_; subst f5_))
 obtain ⟨Ao30, co30, eo30⟩ := Kd.R_slice HO982.out
 (first | subst eo30 | (injection eo30 with f1_ f2_ f3_; have f4_ := f1_.symm; have f5_ := f3_.symm; clear f1_ f2_ f3_; subst f4_; subst f5_))
 refine hK.out _ _ ⟨bc BK960 0, bc BK960 1, bc BK960 2, bc BK960 3⟩ (fun hHeld => ?_)
 clear hK K
 refine norm_ (a' := ?_) ?_ ?_
 rotate_left
 ·show Act.put _ (some 49) _ = _
  simp only [Act.put, List.setIfInBounds_toArray, List.set_cons_zero, List.set_cons_succ, i64_w, i32_w]
  rfl
 refine one_ (i := 10) (N := some 51) #[true, true, true, true, true, true, true, true, true, true, true, false, false, false, false, false] rfl rfl (one_of HT_.out (by kernel_rfl)) (by decide) (fun K hK => ?_)
 refine goes_ Tryz.func21 (by kernel_rfl) rfl #[.slice Ao28 t974.length co28, .slice Ao29 t977.length co29, .slice Ao30 t980.length co30, .int .i64 ji8] (by rfl) rfl rfl (by (try simp only [List.map_toArray, List.map_cons, List.map_nil]); first | done | (simp only [hji8]; rfl) | rfl | (simp only [List.length_drop, List.length_take]; rfl)) ?_
 with_reducible refine (hunks_Build.calls k _ _ t974 _ _ t977 _ _ t980 ji8 t983 t984 _ ?side1 ?side2 ?side3 ?side4 ?side5 ?side6 A12.out).mono ?_
 (case side1 => repeat (first | exact (Kd.R_reads' HO976.out).2.2 | (with_reducible refine Kd.C_alloc ?_ _) | (with_reducible refine Kd.C_drewN ?_ _) | (with_reducible refine Kd.C_drew ?_)))
 (case side2 => exact (Kd.R_reads' HO976.out).2.1)
 (case side3 => repeat (first | exact (Kd.R_reads' HO979.out).2.2 | (with_reducible refine Kd.C_alloc ?_ _) | (with_reducible refine Kd.C_drewN ?_ _) | (with_reducible refine Kd.C_drew ?_)))
 (case side4 => exact (Kd.R_reads' HO979.out).2.1)
 (case side5 => repeat (first | exact (Kd.R_reads' HO982.out).2.2 | (with_reducible refine Kd.C_alloc ?_ _) | (with_reducible refine Kd.C_drewN ?_ _) | (with_reducible refine Kd.C_drew ?_)))
 (case side6 => exact (Kd.R_reads' HO982.out).2.1)
 rintro e w31 ⟨v985, rfl, ho0, hb⟩
 refine ⟨_, rfl, ?_⟩
 have HO986 := Aside0.mk (Kd.N_lower (Kd.N_mono (ok' := fun k_ => some k_ ≠ (.slice Ao19 t961.length co19 : Value).ownBlock ∧ some k_ ≠ (.slice Ao20 t964.length co20 : Value).ownBlock ∧ some k_ ≠ (.slice Ao21 t967.length co21 : Value).ownBlock ∧ some k_ ≠ (v972 : Value).ownBlock ∧ some k_ ≠ (.slice Ao28 t974.length co28 : Value).ownBlock ∧ some k_ ≠ (.slice Ao29 t977.length co29 : Value).ownBlock ∧ some k_ ≠ (.slice Ao30 t980.length co30 : Value).ownBlock ∧ k_ ≠ gb960) (Kd.S_N (Kd.S_bound ho0)) (fun k_ hk_ => ⟨(Kd.fresh' (Kd.R_lt (kdUp HO963.out)) k_ hk_.2.1), (Kd.fresh' (Kd.R_lt (kdUp HO966.out)) k_ hk_.2.1), (Kd.fresh' (Kd.R_lt (kdUp HO969.out)) k_ hk_.2.1), (Kd.fresh' (Kd.N_lt (by (with_reducible repeat (first | apply Kd.N_alloc | apply Kd.N_drewN | apply Kd.N_drew)); exact HO973.out)) k_ hk_.2.1), (Kd.fresh' (Kd.R_lt (kdUp HO976.out)) k_ hk_.2.1), (Kd.fresh' (Kd.R_lt (kdUp HO979.out)) k_ hk_.2.1), (Kd.fresh' (Kd.R_lt (kdUp HO982.out)) k_ hk_.2.1), (Kd.freshB (g := gb960) (o := .cells #[.slice A0_0 l0_0.length c0_0, .slice A0_1 l0_1.length c0_1, .slice A0_2 l0_2.length c0_2, .int .i64 a0_3] 40 (0, 0)) (bkUp BK960.out) k_ hk_.2.1)⟩)) (below_size (belPut)))
 replace HO963 := Aside0.mk (Kd.R_below (kdUp HO963.out) hb)
 replace HO966 := Aside0.mk (Kd.R_below (kdUp HO966.out) hb)
 replace HO969 := Aside0.mk (Kd.R_below (kdUp HO969.out) hb)
 replace HO973 := Aside0.mk (Kd.N_elder' (by (with_reducible repeat (first | apply Kd.N_alloc | apply Kd.N_drewN | apply Kd.N_drew)); exact HO973.out) (by first | exact Kd.S_base ho0 | exact Kd.N_base ho0) hb)
 replace HO976 := Aside0.mk (Kd.R_below (kdUp HO976.out) hb)
 replace HO979 := Aside0.mk (Kd.R_below (kdUp HO979.out) hb)
 replace HO982 := Aside0.mk (Kd.R_below (kdUp HO982.out) hb)
 replace BK960 := bkD BK960 hb
 replace HB := hbD HB hb
 (try clear hb)
 (try clear hb2)
 (try clear hk)
 (try clear hi)
 (try clear ho0)
 (try simp only [errW_none, errW_some])
 refine hK.out _ _ ⟨bc BK960 0, bc BK960 1, bc BK960 2, bc BK960 3⟩ (fun hHeld => ?_)
 clear hK K
 refine norm_ (a' := ?_) ?_ ?_
 rotate_left
 ·show Act.put _ (some 51) _ = _
  simp only [Act.put, List.setIfInBounds_toArray, List.set_cons_zero, List.set_cons_succ, i64_w, i32_w]
  rfl
 refine pureT 11 ?_
 refine pureT 12 ?_
 refine pureT 13 ?_
 refine pureT 14 ?_
 refine pureT 15 ?_
 refine done_ (done_of HT_.out (by kernel_rfl)) ?_
 go_upto_region 4 with (fail)
 go_cut [59] (fun v59 wc => ∃ (kq : Nat) (x59_12 : Bool), v59 = .bool x59_12 ∧ Aside0 (selvagelaw10_HunksLess.j0 kq ji8 t970 t983 x59_12 l0_0 l0_1 l0_2 a0_3 = some r) ∧ Aside0 (kq ≤ k) ∧ Aside0 (Kd.N k29 29 wc w.heap.size (fun k_ => some k_ ≠ (v985 : Value).ownBlock ∧ k_ ≠ gb960) v972 t970) ∧ Aside0 (Kd.N k29 29 wc w.heap.size (fun k_ => some k_ ≠ (v972 : Value).ownBlock ∧ k_ ≠ gb960) v985 t983) ∧ Aside0 (wc.heap[gb960]? = some (.cells #[(.slice A0_0 l0_0.length c0_0), (.slice A0_1 l0_1.length c0_1), (.slice A0_2 l0_2.length c0_2), .int .i64 a0_3] 40 (0, 0))) ∧ Aside0 (Below w.heap.size w wc))
 case first =>
  have H := HC13.out
  clear HC13
  rcases t971 with _ | q987
  ·have H1 : (if t984.isNone = true then (selvagelaw10_HunksLess.j0 k ji8 t970 t983 false l0_0 l0_1 l0_2 a0_3) else (selvagelaw10_HunksLess.j0 k ji8 t970 t983 true l0_0 l0_1 l0_2 a0_3)) = some r := by rw [if_pos (show (none : Option Int).isNone = true by rfl)] at H; exact H
   clear H
   have H := H1
   clear H1
   try simp only [errW_none, errW_some]
   rcases t984 with _ | q988
   ·have H1 : (selvagelaw10_HunksLess.j0 k ji8 t970 t983 false l0_0 l0_1 l0_2 a0_3) = some r := by rw [if_pos (show (none : Option Int).isNone = true by rfl)] at H; exact H
    clear H
    have H := H1
    clear H1
    try simp only [errW_none, errW_some]
    have H' := Aside0.mk H
    clear H
    go_wp2
    go_meet
    case rel => exact ⟨_, (false), eqNow, H', ⟨by first | omega | exact Nat.le_refl _⟩, ⟨by (with_reducible repeat (first | apply Kd.N_alloc | apply Kd.N_drewN | apply Kd.N_drew)); exact Kd.N_mono HO973.out (fun _ hk => ⟨hk.2, hk.1.1.1.1.2.2.2⟩)⟩, ⟨by (with_reducible repeat (first | apply Kd.N_alloc | apply Kd.N_drewN | apply Kd.N_drew)); exact Kd.N_mono HO986.out (fun _ hk => ⟨hk.2.2.2.1, hk.2.2.2.2.2.2.2⟩)⟩, ⟨bkUp BK960.out⟩, ⟨belPut⟩⟩
   have H1 : (selvagelaw10_HunksLess.j0 k ji8 t970 t983 true l0_0 l0_1 l0_2 a0_3) = some r := by rw [if_neg (show ¬ (some q988).isNone = true by simp)] at H; exact H
   clear H
   have H := H1
   clear H1
   try simp only [errW_none, errW_some]
   have H' := Aside0.mk H
   clear H
   go_wp2
   go_meet
   case rel => exact ⟨_, (true), eqNow, H', ⟨by first | omega | exact Nat.le_refl _⟩, ⟨by (with_reducible repeat (first | apply Kd.N_alloc | apply Kd.N_drewN | apply Kd.N_drew)); exact Kd.N_mono HO973.out (fun _ hk => ⟨hk.2, hk.1.1.1.1.2.2.2⟩)⟩, ⟨by (with_reducible repeat (first | apply Kd.N_alloc | apply Kd.N_drewN | apply Kd.N_drew)); exact Kd.N_mono HO986.out (fun _ hk => ⟨hk.2.2.2.1, hk.2.2.2.2.2.2.2⟩)⟩, ⟨bkUp BK960.out⟩, ⟨belPut⟩⟩
  have H1 : (selvagelaw10_HunksLess.j0 k ji8 t970 t983 true l0_0 l0_1 l0_2 a0_3) = some r := by rw [if_neg (show ¬ (some q987).isNone = true by simp)] at H; exact H
  clear H
  have H := H1
  clear H1
  try simp only [errW_none, errW_some]
  have H' := Aside0.mk H
  clear H
  go_wp2
  go_meet
  case rel => exact ⟨_, (true), eqNow, H', ⟨by first | omega | exact Nat.le_refl _⟩, ⟨by (with_reducible repeat (first | apply Kd.N_alloc | apply Kd.N_drewN | apply Kd.N_drew)); exact Kd.N_mono HO973.out (fun _ hk => ⟨hk.2, hk.1.1.1.1.2.2.2⟩)⟩, ⟨by (with_reducible repeat (first | apply Kd.N_alloc | apply Kd.N_drewN | apply Kd.N_drew)); exact Kd.N_mono HO986.out (fun _ hk => ⟨hk.2.2.2.1, hk.2.2.2.2.2.2.2⟩)⟩, ⟨bkUp BK960.out⟩, ⟨belPut⟩⟩
 case rest =>
  clear HC13
  try clear hcz23_0 hcz23_1 hcz23_2 hcz23_3 hfz23_0 hfz23_1 hfz23_2 hfz23_3
  obtain ⟨kq, x59_12, rfl, HA, HJ12, HO_5, HO_7, BK960, HB⟩ := hcut
  cases kq with
  | zero => exact absurd HA.out (by simp [selvagelaw10_HunksLess.j0])
  | succ kj12 =>
   have H := HA.out
   clear HA
   simp only [selvagelaw10_HunksLess.j0] at H
   replace H := itB H
   rcases H with ⟨rfl, H⟩ | ⟨rfl, H⟩
   ·replace H := bdS H
    obtain ⟨t989, A33, H⟩ := H
    obtain rfl := Option.some.inj H
    go_wp2_with (first | ((with_reducible refine gate_callee (f := 18) rfl ?_); refine goL (some 60) Tryz.func18 #[] ?_; (with_reducible refine (selvagelaw10_works.calls kj12  t989 _ ?side1 A33.out).mono ?_); (case side1 => exact Glob.below hGL (belPut)); rintro e w34 ⟨rfl, hb⟩; refine ⟨_, rfl, ?_⟩; replace HO_5 := Aside0.mk (Kd.N_below (by (with_reducible repeat (first | apply Kd.N_alloc | apply Kd.N_drewN | apply Kd.N_drew)); exact HO_5.out) hb); replace HO_7 := Aside0.mk (Kd.N_below (by (with_reducible repeat (first | apply Kd.N_alloc | apply Kd.N_drewN | apply Kd.N_drew)); exact HO_7.out) hb); replace BK960 := bkD BK960 hb; replace HB := hbD HB hb; clear hb))
    go_ret
    exact ⟨by first | rfl | (simp [errW_none, errW_some] <;> rfl) | (simp only [← hji7, ← hji8]; first | rfl | (simp [errW_none, errW_some] <;> rfl)) | (simp [*, errW_none, errW_some] <;> rfl) | (simp only [i64_w, i32_w, u8_w]; first | rfl | (simp [errW_none, errW_some] <;> rfl)) | (simp only [bne_nil, beq_nil]; first | rfl | (simp <;> rfl)), belPut⟩
   have H' := Aside0.mk H
   clear H
   go_wp2
   go_loopg [9, 10] kj12 (fun kq v9 v10 w' => ∃ (x9_2 : List (S29)) (x10_2 : Int), v10 = .int .i64 x10_2 ∧ Aside0 (selvagelaw10_HunksLess.l0 kq ji8 t970 t983 x9_2 x10_2 l0_0 l0_1 l0_2 a0_3 = some r) ∧ Aside0 (kq ≤ kj12) ∧ Aside0 (Kd.N k29 29 w' w.heap.size (fun k_ => some k_ ≠ (v985 : Value).ownBlock ∧ some k_ ≠ (v9 : Value).ownBlock ∧ k_ ≠ gb960) v972 t970) ∧ Aside0 (Kd.N k29 29 w' w.heap.size (fun k_ => some k_ ≠ (v972 : Value).ownBlock ∧ some k_ ≠ (v9 : Value).ownBlock ∧ k_ ≠ gb960) v985 t983) ∧ Aside0 (Kd.N k29 29 w' w.heap.size (fun k_ => some k_ ≠ (v972 : Value).ownBlock ∧ some k_ ≠ (v985 : Value).ownBlock ∧ k_ ≠ gb960) v9 x9_2) ∧ Aside0 (w'.heap[gb960]? = some (.cells #[(.slice A0_0 l0_0.length c0_0), (.slice A0_1 l0_1.length c0_1), (.slice A0_2 l0_2.length c0_2), .int .i64 a0_3] 40 (0, 0))) ∧ Aside0 (Below w.heap.size w w'))
   case atStart => exact ⟨(([] : List (S29))), (0), eqNow, H', ⟨Nat.le_refl _⟩, ⟨by (with_reducible repeat (first | apply Kd.N_alloc | apply Kd.N_drewN | apply Kd.N_drew)); exact Kd.N_mono HO_5.out (fun _ hk => ⟨hk.1, ⟨(by simp [Value.ownBlock]), hk.2⟩⟩)⟩, ⟨by (with_reducible repeat (first | apply Kd.N_alloc | apply Kd.N_drewN | apply Kd.N_drew)); exact Kd.N_mono HO_7.out (fun _ hk => ⟨hk.1, ⟨(by simp [Value.ownBlock]), hk.2⟩⟩)⟩, ⟨kNil⟩, ⟨bkUp BK960.out⟩, ⟨belPut⟩⟩
   case round =>
    clear H'
    try clear c32
    try clear hcz23_0 hcz23_1 hcz23_2 hcz23_3 hfz23_0 hfz23_1 hfz23_2 hfz23_3
    obtain ⟨x9_2, x10_2, rfl, HA, HK2, HO_5, HO_7, HO_9, BK960, HB⟩ := hrel
    cases gk with
    | zero => exact absurd HA.out (by simp [selvagelaw10_HunksLess.l0])
    | succ k2 =>
     have H := HA.out
     clear HA
     simp only [selvagelaw10_HunksLess.l0] at H
     replace H := itLn H
     rcases H with ⟨-, c35b0, H⟩ | ⟨-, c35b0, H⟩
     ·replace H := bdS H
      obtain ⟨⟨t1008, t1009⟩, A76, H⟩ := H
      replace H : ((hunks_Script.f k2 x9_2 (l0_1.length : Int) (l0_2.length : Int)).bind fun bt1012 => (if t1009.isNone = true then (if bt1012.2.isNone = true then (selvagelaw10_HunksLess.j2 k2 t983 x9_2 t1008 bt1012.1 ((t1008.length : Int) != (bt1012.1.length : Int))) else (selvagelaw10_HunksLess.j2 k2 t983 x9_2 t1008 bt1012.1 true)) else (selvagelaw10_HunksLess.j2 k2 t983 x9_2 t1008 bt1012.1 true))) = some r := H
      replace H := bdS H
      obtain ⟨⟨t1012, t1013⟩, A77, H⟩ := H
      replace H : (if t1009.isNone = true then (if t1013.isNone = true then (selvagelaw10_HunksLess.j2 k2 t983 x9_2 t1008 t1012 ((t1008.length : Int) != (t1012.length : Int))) else (selvagelaw10_HunksLess.j2 k2 t983 x9_2 t1008 t1012 true)) else (selvagelaw10_HunksLess.j2 k2 t983 x9_2 t1008 t1012 true)) = some r := H
      have HC78 := Aside0.mk H
      clear H
      obtain ⟨Ao79, co79, eo79⟩ := Kd.N_slice HO_5.out
      subst eo79
      have hcz80_0 := bkc (v := .slice A0_0 l0_0.length c0_0) BK960.out 0 rfl
      have hcz80_1 := bkc (v := .slice A0_1 l0_1.length c0_1) BK960.out 1 rfl
      have hcz80_2 := bkc (v := .slice A0_2 l0_2.length c0_2) BK960.out 2 rfl
      have hcz80_3 := bkc (v := .int .i64 a0_3) BK960.out 3 rfl
      have hfz80_0 := blk_frozen BK960.out 0
      have hfz80_1 := blk_frozen BK960.out 1
      have hfz80_2 := blk_frozen BK960.out 2
      have hfz80_3 := blk_frozen BK960.out 3
      go_upto_region 17 with (first | ((with_reducible refine gate_callee (f := 29) rfl ?_); refine goL (some 119) Tryz.func29 #[.slice Ao79 t970.length co79, .int .i64 (l0_1.length : Int), .int .i64 (l0_2.length : Int)] ?_; (with_reducible refine (hunks_Script.calls k2 _ _ t970 (l0_1.length : Int) (l0_2.length : Int) t1008 t1009 _ ?side1 ?side2 A76.out).mono ?_); (case side1 => repeat (first | exact (Kd.N_reads' HO_5.out).2.2 | (with_reducible refine Kd.C_alloc ?_ _) | (with_reducible refine Kd.C_drewN ?_ _) | (with_reducible refine Kd.C_drew ?_))); (case side2 => exact (Kd.N_reads' HO_5.out).2.1); rintro e w81 ⟨v1010, rfl, ho0, hb⟩; refine ⟨_, rfl, ?_⟩; replace HO_5 := Aside0.mk (Kd.N_elder' (by (with_reducible repeat (first | apply Kd.N_alloc | apply Kd.N_drewN | apply Kd.N_drew)); exact HO_5.out) (Kd.R_base ho0) hb); replace HO_7 := Aside0.mk (Kd.N_elder' (by (with_reducible repeat (first | apply Kd.N_alloc | apply Kd.N_drewN | apply Kd.N_drew)); exact HO_7.out) (Kd.R_base ho0) hb); replace HO_9 := Aside0.mk (Kd.N_elder' (by (with_reducible repeat (first | apply Kd.N_alloc | apply Kd.N_drewN | apply Kd.N_drew)); exact HO_9.out) (Kd.R_base ho0) hb); have HO1011 := Aside0.mk (Kd.R_lower ho0 (below_size (belPut))); replace BK960 := bkD BK960 hb; replace HB := hbD HB hb; clear hb; (try clear ho0); (try simp only [errW_none, errW_some]); obtain ⟨hcz82_0, hcz82_1, hcz82_2, hcz82_3, hfz82_0, hfz82_1, hfz82_2, hfz82_3⟩ := bcf4 (W := w81) BK960; obtain ⟨Ao83, co83, eo83⟩ := Kd.N_slice HO_9.out; subst eo83) | ((with_reducible refine gate_callee (f := 29) rfl ?_); refine goL (some 130) Tryz.func29 #[.slice Ao83 x9_2.length co83, .int .i64 (l0_1.length : Int), .int .i64 (l0_2.length : Int)] ?_; (with_reducible refine (hunks_Script.calls k2 _ _ x9_2 (l0_1.length : Int) (l0_2.length : Int) t1012 t1013 _ ?side1 ?side2 A77.out).mono ?_); (case side1 => repeat (first | exact (Kd.N_reads' HO_9.out).2.2 | (with_reducible refine Kd.C_alloc ?_ _) | (with_reducible refine Kd.C_drewN ?_ _) | (with_reducible refine Kd.C_drew ?_))); (case side2 => exact (Kd.N_reads' HO_9.out).2.1); rintro e w84 ⟨v1014, rfl, ho0, hb⟩; refine ⟨_, rfl, ?_⟩; replace HO_5 := Aside0.mk (Kd.N_elder' (by (with_reducible repeat (first | apply Kd.N_alloc | apply Kd.N_drewN | apply Kd.N_drew)); exact HO_5.out) (Kd.R_base ho0) hb); replace HO_7 := Aside0.mk (Kd.N_elder' (by (with_reducible repeat (first | apply Kd.N_alloc | apply Kd.N_drewN | apply Kd.N_drew)); exact HO_7.out) (Kd.R_base ho0) hb); replace HO_9 := Aside0.mk (Kd.N_elder' (by (with_reducible repeat (first | apply Kd.N_alloc | apply Kd.N_drewN | apply Kd.N_drew)); exact HO_9.out) (Kd.R_base ho0) hb); have HO1015 := Aside0.mk (Kd.R_lower (Kd.R_new' ho0 (Kd.R_lt (kdUp HO1011.out))) (below_size (belPut))); replace HO1011 := Aside0.mk (Kd.R_elder' (kdUp HO1011.out) (Kd.R_base ho0) hb); replace BK960 := bkD BK960 hb; replace HB := hbD HB hb; clear hb; (try clear ho0); (try simp only [errW_none, errW_some])))
      (try simp only [Act.put, List.setIfInBounds_toArray, List.set_cons_zero, List.set_cons_succ])
      go_cut [145] (fun v145 wc => ∃ (kq : Nat) (x145_77 : Bool), v145 = .bool x145_77 ∧ Aside0 (selvagelaw10_HunksLess.j2 kq t983 x9_2 t1008 t1012 x145_77 = some r) ∧ Aside0 (kq ≤ k2) ∧ Aside0 (Kd.N k29 29 wc w.heap.size (fun k_ => some k_ ≠ ((.slice Ao83 x9_2.length co83) : Value).ownBlock ∧ some k_ ≠ (v1010 : Value).ownBlock ∧ some k_ ≠ (v1014 : Value).ownBlock ∧ k_ ≠ gb960) v985 t983) ∧ Aside0 (Kd.N k29 29 wc w.heap.size (fun k_ => some k_ ≠ (v985 : Value).ownBlock ∧ some k_ ≠ (v1010 : Value).ownBlock ∧ some k_ ≠ (v1014 : Value).ownBlock ∧ k_ ≠ gb960) (.slice Ao83 x9_2.length co83) x9_2) ∧ Aside0 (Kd.R k49 49 wc w.heap.size (fun k_ => some k_ ≠ (v1014 : Value).ownBlock) v1010 t1008) ∧ Aside0 (Kd.R k49 49 wc w.heap.size (fun k_ => some k_ ≠ (v1010 : Value).ownBlock) v1014 t1012) ∧ Aside0 (wc.heap[gb960]? = some (.cells #[(.slice A0_0 l0_0.length c0_0), (.slice A0_1 l0_1.length c0_1), (.slice A0_2 l0_2.length c0_2), .int .i64 a0_3] 40 (0, 0))) ∧ Aside0 (Below w.heap.size w wc))
      case first =>
       have H := HC78.out
       clear HC78
       rcases t1009 with _ | q1016
       ·have H1 : (if t1013.isNone = true then (selvagelaw10_HunksLess.j2 k2 t983 x9_2 t1008 t1012 ((t1008.length : Int) != (t1012.length : Int))) else (selvagelaw10_HunksLess.j2 k2 t983 x9_2 t1008 t1012 true)) = some r := by rw [if_pos (show (none : Option Int).isNone = true by rfl)] at H; exact H
        clear H
        have H := H1
        clear H1
        try simp only [errW_none, errW_some]
        rcases t1013 with _ | q1017
        ·have H1 : (selvagelaw10_HunksLess.j2 k2 t983 x9_2 t1008 t1012 ((t1008.length : Int) != (t1012.length : Int))) = some r := by rw [if_pos (show (none : Option Int).isNone = true by rfl)] at H; exact H
         clear H
         have H := H1
         clear H1
         try simp only [errW_none, errW_some]
         have H' := Aside0.mk H
         clear H
         obtain ⟨Ao85, co85, eo85⟩ := Kd.R_slice HO1011.out
         subst eo85
         obtain ⟨Ao86, co86, eo86⟩ := Kd.R_slice HO1015.out
         subst eo86
         go_wp2
         go_meet
         case rel => exact ⟨_, (((t1008.length : Int) != (t1012.length : Int))), eqNow, H', ⟨by have := HJ12.out; have := HK2.out; first | omega | exact Nat.le_refl _⟩, ⟨by (with_reducible repeat (first | apply Kd.N_alloc | apply Kd.N_drewN | apply Kd.N_drew)); exact Kd.N_mono HO_7.out (fun _ hk => ⟨hk.1.1.2.1, ⟨hk.1.2, ⟨hk.2, hk.1.1.2.2⟩⟩⟩)⟩, ⟨by (with_reducible repeat (first | apply Kd.N_alloc | apply Kd.N_drewN | apply Kd.N_drew)); exact Kd.N_mono HO_9.out (fun _ hk => ⟨hk.1.1.2.1, ⟨hk.1.2, ⟨hk.2, hk.1.1.2.2⟩⟩⟩)⟩, ⟨by (with_reducible repeat (first | apply Kd.R_alloc | apply Kd.R_drewN | apply Kd.R_drew)); exact Kd.R_mono HO1011.out (fun _ hk => hk.2)⟩, ⟨by (with_reducible repeat (first | apply Kd.R_alloc | apply Kd.R_drewN | apply Kd.R_drew)); exact Kd.R_mono HO1015.out (fun _ hk => hk.2)⟩, ⟨bkUp BK960.out⟩, ⟨belPut⟩⟩
        have H1 : (selvagelaw10_HunksLess.j2 k2 t983 x9_2 t1008 t1012 true) = some r := by rw [if_neg (show ¬ (some q1017).isNone = true by simp)] at H; exact H
        clear H
        have H := H1
        clear H1
        try simp only [errW_none, errW_some]
        have H' := Aside0.mk H
        clear H
        go_wp2
        go_meet
        case rel => exact ⟨_, (true), eqNow, H', ⟨by have := HJ12.out; have := HK2.out; first | omega | exact Nat.le_refl _⟩, ⟨by (with_reducible repeat (first | apply Kd.N_alloc | apply Kd.N_drewN | apply Kd.N_drew)); exact Kd.N_mono HO_7.out (fun _ hk => ⟨hk.1.1.2.1, ⟨hk.1.2, ⟨hk.2, hk.1.1.2.2⟩⟩⟩)⟩, ⟨by (with_reducible repeat (first | apply Kd.N_alloc | apply Kd.N_drewN | apply Kd.N_drew)); exact Kd.N_mono HO_9.out (fun _ hk => ⟨hk.1.1.2.1, ⟨hk.1.2, ⟨hk.2, hk.1.1.2.2⟩⟩⟩)⟩, ⟨by (with_reducible repeat (first | apply Kd.R_alloc | apply Kd.R_drewN | apply Kd.R_drew)); exact Kd.R_mono HO1011.out (fun _ hk => hk.2)⟩, ⟨by (with_reducible repeat (first | apply Kd.R_alloc | apply Kd.R_drewN | apply Kd.R_drew)); exact Kd.R_mono HO1015.out (fun _ hk => hk.2)⟩, ⟨bkUp BK960.out⟩, ⟨belPut⟩⟩
       have H1 : (selvagelaw10_HunksLess.j2 k2 t983 x9_2 t1008 t1012 true) = some r := by rw [if_neg (show ¬ (some q1016).isNone = true by simp)] at H; exact H
       clear H
       have H := H1
       clear H1
       try simp only [errW_none, errW_some]
       have H' := Aside0.mk H
       clear H
       go_wp2
       go_meet
       case rel => exact ⟨_, (true), eqNow, H', ⟨by have := HJ12.out; have := HK2.out; first | omega | exact Nat.le_refl _⟩, ⟨by (with_reducible repeat (first | apply Kd.N_alloc | apply Kd.N_drewN | apply Kd.N_drew)); exact Kd.N_mono HO_7.out (fun _ hk => ⟨hk.1.1.2.1, ⟨hk.1.2, ⟨hk.2, hk.1.1.2.2⟩⟩⟩)⟩, ⟨by (with_reducible repeat (first | apply Kd.N_alloc | apply Kd.N_drewN | apply Kd.N_drew)); exact Kd.N_mono HO_9.out (fun _ hk => ⟨hk.1.1.2.1, ⟨hk.1.2, ⟨hk.2, hk.1.1.2.2⟩⟩⟩)⟩, ⟨by (with_reducible repeat (first | apply Kd.R_alloc | apply Kd.R_drewN | apply Kd.R_drew)); exact Kd.R_mono HO1011.out (fun _ hk => hk.2)⟩, ⟨by (with_reducible repeat (first | apply Kd.R_alloc | apply Kd.R_drewN | apply Kd.R_drew)); exact Kd.R_mono HO1015.out (fun _ hk => hk.2)⟩, ⟨bkUp BK960.out⟩, ⟨belPut⟩⟩
      case rest =>
       clear HC78
       try clear c35
       try clear c35b0
       try clear hcz80_0 hcz80_1 hcz80_2 hcz80_3
       try clear hcz82_0 hcz82_1 hcz82_2 hcz82_3
       try clear hfz80_0 hfz80_1 hfz80_2 hfz80_3
       try clear hfz82_0 hfz82_1 hfz82_2 hfz82_3
       obtain ⟨kq, x145_77, rfl, HA, HJ77, HO_7, HO_9, HO_15, HO_17, BK960, HB⟩ := hcut
       cases kq with
       | zero => exact absurd HA.out (by simp [selvagelaw10_HunksLess.j2])
       | succ kj77 =>
        have H := HA.out
        clear HA
        simp only [selvagelaw10_HunksLess.j2] at H
        by_cases c87 : x145_77 = true
        ·rw [if_pos c87] at H
         exact absurd H (by simp)
        replace c87 := Bool.eq_false_iff.mpr c87
        subst c87
        have H1 : (selvagelaw10_HunksLess.l1 kj77 t983 x9_2 t1008 t1012 0) = some r := by rw [if_neg (show ¬ (false = true) by decide)] at H; exact H
        clear H
        have H := H1
        clear H1
        have H' := Aside0.mk H
        clear H
        go_wp2
        go_loopg [19] kj77 (fun kq v19 w' => ∃ (x19_4 : Int), v19 = .int .i64 x19_4 ∧ Aside0 (selvagelaw10_HunksLess.l1 kq t983 x9_2 t1008 t1012 x19_4 = some r) ∧ Aside0 (kq ≤ kj77) ∧ Aside0 (Kd.N k29 29 w' w.heap.size (fun k_ => some k_ ≠ ((.slice Ao83 x9_2.length co83) : Value).ownBlock ∧ some k_ ≠ (v1010 : Value).ownBlock ∧ some k_ ≠ (v1014 : Value).ownBlock ∧ k_ ≠ gb960) v985 t983) ∧ Aside0 (Kd.N k29 29 w' w.heap.size (fun k_ => some k_ ≠ (v985 : Value).ownBlock ∧ some k_ ≠ (v1010 : Value).ownBlock ∧ some k_ ≠ (v1014 : Value).ownBlock ∧ k_ ≠ gb960) (.slice Ao83 x9_2.length co83) x9_2) ∧ Aside0 (Kd.R k49 49 w' w.heap.size (fun k_ => some k_ ≠ (v1014 : Value).ownBlock) v1010 t1008) ∧ Aside0 (Kd.R k49 49 w' w.heap.size (fun k_ => some k_ ≠ (v1010 : Value).ownBlock) v1014 t1012) ∧ Aside0 (w'.heap[gb960]? = some (.cells #[(.slice A0_0 l0_0.length c0_0), (.slice A0_1 l0_1.length c0_1), (.slice A0_2 l0_2.length c0_2), .int .i64 a0_3] 40 (0, 0))) ∧ Aside0 (Below w.heap.size w w'))
        case atStart => exact ⟨(0), eqNow, H', ⟨Nat.le_refl _⟩, ⟨by (with_reducible repeat (first | apply Kd.N_alloc | apply Kd.N_drewN | apply Kd.N_drew)); (first | exact HO_7.out | exact Kd.R_mono HO_7.out (fun k_ h_ h2_ => h_ (h2_.trans ((fun (A_ : Option Addr) (n_ m_ c_ : Nat) => (show (Value.slice A_ n_ c_).ownBlock = (Value.slice A_ m_ c_).ownBlock by cases A_ <;> rfl)) _ _ _ _))))⟩, ⟨by (with_reducible repeat (first | apply Kd.N_alloc | apply Kd.N_drewN | apply Kd.N_drew)); (first | exact HO_9.out | exact Kd.R_mono HO_9.out (fun k_ h_ h2_ => h_ (h2_.trans ((fun (A_ : Option Addr) (n_ m_ c_ : Nat) => (show (Value.slice A_ n_ c_).ownBlock = (Value.slice A_ m_ c_).ownBlock by cases A_ <;> rfl)) _ _ _ _))))⟩, ⟨kdMv HO_15⟩, ⟨kdMv HO_17⟩, ⟨bkUp BK960.out⟩, ⟨belPut⟩⟩
        case round =>
         clear H'
         try clear c35
         try clear c35b0
         try clear c87
         try clear hcz80_0 hcz80_1 hcz80_2 hcz80_3
         try clear hcz82_0 hcz82_1 hcz82_2 hcz82_3
         try clear hfz80_0 hfz80_1 hfz80_2 hfz80_3
         try clear hfz82_0 hfz82_1 hfz82_2 hfz82_3
         obtain ⟨x19_4, rfl, HA, HK4, HO_7, HO_9, HO_15, HO_17, BK960, HB⟩ := hrel
         cases gk with
         | zero => exact absurd HA.out (by simp [selvagelaw10_HunksLess.l1])
         | succ k4 =>
          have H := HA.out
          clear HA
          simp only [selvagelaw10_HunksLess.l1] at H
          replace H := itLn H
          rcases H with ⟨-, c88b0, H⟩ | ⟨-, c88b0, H⟩
          ·replace H := bdS H
           obtain ⟨t1020, A98, H⟩ := H
           by_cases c99 : t1020 = true
           rotate_left
           ·rw [if_neg c99] at H
            exact absurd H (by simp)
           subst c99
           have H1 : ((selvagelaw10_works.f k4).bind fun t1021 => (some t1021)) = some r := by rw [if_pos rfl] at H; exact H
           clear H
           have H := H1
           clear H1
           replace H := bdS H
           obtain ⟨t1021, A100, H⟩ := H
           obtain rfl := Option.some.inj H
           obtain ⟨Ao101, co101, eo101⟩ := Kd.R_slice HO_15.out
           subst eo101
           obtain ⟨Ao102, co102, eo102⟩ := Kd.N_slice HO_7.out
           subst eo102
           go_wp2_with (first | ((with_reducible refine gate_callee (f := 17) rfl ?_); refine goL (some 163) Tryz.func17 #[.slice Ao83 x9_2.length co83, .slice Ao102 t983.length co102] ?_; (with_reducible refine (selvagelaw10_sameAll.calls k4 _ _ x9_2 _ _ t983 true _ ?side1 ?side2 ?side3 ?side4 A98.out).mono ?_); (case side1 => repeat (first | exact (Kd.N_reads' HO_9.out).2.2 | (with_reducible refine Kd.C_alloc ?_ _) | (with_reducible refine Kd.C_drewN ?_ _) | (with_reducible refine Kd.C_drew ?_))); (case side2 => exact (Kd.N_reads' HO_9.out).2.1); (case side3 => repeat (first | exact (Kd.N_reads' HO_7.out).2.2 | (with_reducible refine Kd.C_alloc ?_ _) | (with_reducible refine Kd.C_drewN ?_ _) | (with_reducible refine Kd.C_drew ?_))); (case side4 => exact (Kd.N_reads' HO_7.out).2.1); rintro e w103 ⟨rfl, hb⟩; refine ⟨_, rfl, ?_⟩; replace HO_7 := Aside0.mk (Kd.N_below (by (with_reducible repeat (first | apply Kd.N_alloc | apply Kd.N_drewN | apply Kd.N_drew)); exact HO_7.out) hb); replace HO_9 := Aside0.mk (Kd.N_below (by (with_reducible repeat (first | apply Kd.N_alloc | apply Kd.N_drewN | apply Kd.N_drew)); exact HO_9.out) hb); replace HO_15 := Aside0.mk (Kd.R_below (kdUp HO_15.out) hb); replace HO_17 := Aside0.mk (Kd.R_below (kdUp HO_17.out) hb); replace BK960 := bkD BK960 hb; replace HB := hbD HB hb; clear hb) | (go_at_call 18; (with_reducible refine (selvagelaw10_works.calls k4  t1021 _ ?side1 A100.out).mono ?_); (case side1 => exact Glob.below hGL (belPut)); rintro e w104 ⟨rfl, hb⟩; replace HO_7 := Aside0.mk (Kd.N_below (by (with_reducible repeat (first | apply Kd.N_alloc | apply Kd.N_drewN | apply Kd.N_drew)); exact HO_7.out) hb); replace HO_9 := Aside0.mk (Kd.N_below (by (with_reducible repeat (first | apply Kd.N_alloc | apply Kd.N_drewN | apply Kd.N_drew)); exact HO_9.out) hb); replace HO_15 := Aside0.mk (Kd.R_below (kdUp HO_15.out) hb); replace HO_17 := Aside0.mk (Kd.R_below (kdUp HO_17.out) hb); replace BK960 := bkD BK960 hb; replace HB := hbD HB hb; clear hb))
           go_ret
           exact ⟨by first | rfl | (simp [errW_none, errW_some] <;> rfl) | (simp only [← hji7, ← hji8]; first | rfl | (simp [errW_none, errW_some] <;> rfl)) | (simp [*, errW_none, errW_some] <;> rfl) | (simp only [i64_w, i32_w, u8_w]; first | rfl | (simp [errW_none, errW_some] <;> rfl)) | (simp only [bne_nil, beq_nil]; first | rfl | (simp <;> rfl)), belPut⟩
          replace H := itLn H
          rcases H with ⟨_, _, H⟩ | ⟨-, c89b0, H⟩
          ·cases H
          replace H := itLn H
          rcases H with ⟨_, _, H⟩ | ⟨-, c90b0, H⟩
          ·cases H
          replace H := itE H
          rcases H with ⟨_, _, _, H⟩ | ⟨c91, -, -, H⟩
          ·cases H
          have c91b0 : (!(((rd_T49 t1008 x19_4).f0) == ((rd_T49 t1012 x19_4).f0)) || (!(((rd_T49 t1008 x19_4).f1) == ((rd_T49 t1012 x19_4).f1)) || (!(((rd_T49 t1008 x19_4).f2) == ((rd_T49 t1012 x19_4).f2)) || (!(((rd_T49 t1008 x19_4).f3) == ((rd_T49 t1012 x19_4).f3)))))) = false := by simpa using c91
          clear c91
          have H' := Aside0.mk H
          clear H
          obtain ⟨Ao95, co95, eo95⟩ := Kd.R_slice HO_15.out
          subst eo95
          try go_wp2
          replace HO_7 := Aside0.mk (Kd.N_drew HO_7.out)
          replace HO_9 := Aside0.mk (Kd.N_drew HO_9.out)
          replace HO_15 := Aside0.mk (Kd.R_drew HO_15.out)
          replace HO_17 := Aside0.mk (Kd.R_drew HO_17.out)
          replace BK960 := Aside0.mk (blk_drew BK960.out)
          replace HB := Aside0.mk (below_drew1 HB.out)
          have p1018 : 0 ≤ (x19_4 : Int) := ofDec
          have q1018 : x19_4 < (t1008.length : Int) := ofDec
          obtain ⟨ad1018, e1018, hx1018_0, hx1018_1, hx1018_2, hx1018_3⟩ := at_T49 (Kd.R_reads' HO_15.out).2.2 x19_4 p1018 q1018
          cases e1018
          replace p1018 := eq_true p1018
          replace q1018 := eq_true q1018
          obtain ⟨Ao97, co97, eo97⟩ := Kd.R_slice HO_17.out
          (first | subst eo97 | (injection eo97 with f1_ f2_ f3_; have f4_ := f1_.symm; have f5_ := f3_.symm; clear f1_ f2_ f3_; subst f4_; subst f5_))
          have p1019 : 0 ≤ (x19_4 : Int) := ofDec
          have q1019 : x19_4 < (t1012.length : Int) := ofDec
          obtain ⟨ad1019, e1019, hx1019_0, hx1019_1, hx1019_2, hx1019_3⟩ := at_T49 (Kd.R_reads' HO_17.out).2.2 x19_4 p1019 q1019
          cases e1019
          replace p1019 := eq_true p1019
          replace q1019 := eq_true q1019
          refine start_ (n := 9) (S := fun w' => w'.cell? (ad1018.add ((x19_4).toNat * 4)) = some (.int .i64 ((rd_T49 t1008 x19_4).f0)) ∧ w'.cell? ⟨(ad1018.add ((x19_4).toNat * 4)).block, (ad1018.add ((x19_4).toNat * 4)).off + 1, none⟩ = some (.int .i64 ((rd_T49 t1008 x19_4).f1)) ∧ w'.cell? ⟨(ad1018.add ((x19_4).toNat * 4)).block, (ad1018.add ((x19_4).toNat * 4)).off + 2, none⟩ = some (.int .i64 ((rd_T49 t1008 x19_4).f2)) ∧ w'.cell? ⟨(ad1018.add ((x19_4).toNat * 4)).block, (ad1018.add ((x19_4).toNat * 4)).off + 3, none⟩ = some (.int .i64 ((rd_T49 t1008 x19_4).f3)) ∧ w'.cell? (ad1019.add ((x19_4).toNat * 4)) = some (.int .i64 ((rd_T49 t1012 x19_4).f0)) ∧ w'.cell? ⟨(ad1019.add ((x19_4).toNat * 4)).block, (ad1019.add ((x19_4).toNat * 4)).off + 1, none⟩ = some (.int .i64 ((rd_T49 t1012 x19_4).f1)) ∧ w'.cell? ⟨(ad1019.add ((x19_4).toNat * 4)).block, (ad1019.add ((x19_4).toNat * 4)).off + 2, none⟩ = some (.int .i64 ((rd_T49 t1012 x19_4).f2)) ∧ w'.cell? ⟨(ad1019.add ((x19_4).toNat * 4)).block, (ad1019.add ((x19_4).toNat * 4)).off + 3, none⟩ = some (.int .i64 ((rd_T49 t1012 x19_4).f3))) (ds := []) #[false, false, false, false, false, false, false, false, false] (by kernel_rfl) rfl rfl ⟨hx1018_0, hx1018_1, hx1018_2, hx1018_3, hx1019_0, hx1019_1, hx1019_2, hx1019_3⟩ (fun hHeld => ?_); refine with_tabW selvagelaw10_HunksLess.tab22 selvagelaw10_HunksLess.bits22 (fun HT_ HW_ => ?_)
          generalize wr.drew = w96 at HO_7 HO_9 HO_15 HO_17 BK960 HB hx1018_0 hx1018_1 hx1018_2 hx1018_3 hx1019_0 hx1019_1 hx1019_2 hx1019_3 hHeld ⊢
          refine pureT 0 ?_
          refine pureT 1 ?_
          refine pureT 2 ?_
          refine pureT 4 ?_
          refine pureT 5 ?_
          refine pureT 6 ?_
          refine takeT 3 hHeld ?_
          refine takeT 7 hHeld ?_
          refine pureT 8 ?_
          refine done_ (done_of HT_.out (by kernel_rfl)) ?_
          try go_wp2
          go_roundg k4
          case measure => have := HJ12.out; have := HK2.out; have := HJ77.out; have := HK4.out; omega
          case rel => exact ⟨(wrap64 (x19_4 + 1)), eqNow, H', ⟨by have := HJ12.out; have := HK2.out; have := HJ77.out; have := HK4.out; omega⟩, ⟨by (with_reducible repeat (first | apply Kd.N_alloc | apply Kd.N_drewN | apply Kd.N_drew)); (first | exact HO_7.out | exact Kd.R_mono HO_7.out (fun k_ h_ h2_ => h_ (h2_.trans ((fun (A_ : Option Addr) (n_ m_ c_ : Nat) => (show (Value.slice A_ n_ c_).ownBlock = (Value.slice A_ m_ c_).ownBlock by cases A_ <;> rfl)) _ _ _ _))))⟩, ⟨by (with_reducible repeat (first | apply Kd.N_alloc | apply Kd.N_drewN | apply Kd.N_drew)); (first | exact HO_9.out | exact Kd.R_mono HO_9.out (fun k_ h_ h2_ => h_ (h2_.trans ((fun (A_ : Option Addr) (n_ m_ c_ : Nat) => (show (Value.slice A_ n_ c_).ownBlock = (Value.slice A_ m_ c_).ownBlock by cases A_ <;> rfl)) _ _ _ _))))⟩, ⟨kdMv HO_15⟩, ⟨kdMv HO_17⟩, ⟨bkUp BK960.out⟩, ⟨belPut⟩⟩
     replace H := itLn H
     rcases H with ⟨_, _, H⟩ | ⟨-, c36b0, H⟩
     ·cases H
     replace H := bdS H
     obtain ⟨⟨t991, t994⟩, A37, H⟩ := H
     replace H : ((hunks_Narrow.f k2 ((rd_T29 t970 x10_2).f0) ((rd_T29 t970 x10_2).f1) ((rd_T29 t970 x10_2).f2) ((rd_T29 t970 x10_2).f3) ((rd_T29 t970 x10_2).f4) ((rd_T29 t970 x10_2).f5) a0_3).bind fun bt996 => (if t994.isNone = true then (if bt996.2.isNone = true then (if (bt996.1.length : Int) = 1 then (if 0 < (bt996.1.length : Int) then ((selvagelaw10_same.f k2 ((rd_T29 bt996.1 0).f0) ((rd_T29 bt996.1 0).f1) ((rd_T29 bt996.1 0).f2) ((rd_T29 bt996.1 0).f3) ((rd_T29 bt996.1 0).f4) ((rd_T29 bt996.1 0).f5) ((rd_T29 t970 x10_2).f0) ((rd_T29 t970 x10_2).f1) ((rd_T29 t970 x10_2).f2) ((rd_T29 t970 x10_2).f3) ((rd_T29 t970 x10_2).f4) ((rd_T29 t970 x10_2).f5)).bind fun t1004 => (if t1004 = true then (if x9_2.length + t991.length < 1954687338268 then (selvagelaw10_HunksLess.l0 k2 ji8 t970 t983 (x9_2 ++ t991) (wrap64 (x10_2 + 1)) l0_0 l0_1 l0_2 a0_3) else (none)) else (none))) else (none)) else (none)) else (none)) else (none))) = some r := H
     replace H := bdS H
     obtain ⟨⟨t996, t999⟩, A38, H⟩ := H
     replace H : (if t994.isNone = true then (if t999.isNone = true then (if (t996.length : Int) = 1 then (if 0 < (t996.length : Int) then ((selvagelaw10_same.f k2 ((rd_T29 t996 0).f0) ((rd_T29 t996 0).f1) ((rd_T29 t996 0).f2) ((rd_T29 t996 0).f3) ((rd_T29 t996 0).f4) ((rd_T29 t996 0).f5) ((rd_T29 t970 x10_2).f0) ((rd_T29 t970 x10_2).f1) ((rd_T29 t970 x10_2).f2) ((rd_T29 t970 x10_2).f3) ((rd_T29 t970 x10_2).f4) ((rd_T29 t970 x10_2).f5)).bind fun t1004 => (if t1004 = true then (if x9_2.length + t991.length < 1954687338268 then (selvagelaw10_HunksLess.l0 k2 ji8 t970 t983 (x9_2 ++ t991) (wrap64 (x10_2 + 1)) l0_0 l0_1 l0_2 a0_3) else (none)) else (none))) else (none)) else (none)) else (none)) else (none)) = some r := H
     rcases t994 with _ | q1000
     ·have H1 : (if t999.isNone = true then (if (t996.length : Int) = 1 then (if 0 < (t996.length : Int) then ((selvagelaw10_same.f k2 ((rd_T29 t996 0).f0) ((rd_T29 t996 0).f1) ((rd_T29 t996 0).f2) ((rd_T29 t996 0).f3) ((rd_T29 t996 0).f4) ((rd_T29 t996 0).f5) ((rd_T29 t970 x10_2).f0) ((rd_T29 t970 x10_2).f1) ((rd_T29 t970 x10_2).f2) ((rd_T29 t970 x10_2).f3) ((rd_T29 t970 x10_2).f4) ((rd_T29 t970 x10_2).f5)).bind fun t1004 => (if t1004 = true then (if x9_2.length + t991.length < 1954687338268 then (selvagelaw10_HunksLess.l0 k2 ji8 t970 t983 (x9_2 ++ t991) (wrap64 (x10_2 + 1)) l0_0 l0_1 l0_2 a0_3) else (none)) else (none))) else (none)) else (none)) else (none)) = some r := by rw [if_pos (show (none : Option Int).isNone = true by rfl)] at H; exact H
      clear H
      have H := H1
      clear H1
      try simp only [errW_none, errW_some]
      rcases t999 with _ | q1001
      ·have H1 : (if (t996.length : Int) = 1 then (if 0 < (t996.length : Int) then ((selvagelaw10_same.f k2 ((rd_T29 t996 0).f0) ((rd_T29 t996 0).f1) ((rd_T29 t996 0).f2) ((rd_T29 t996 0).f3) ((rd_T29 t996 0).f4) ((rd_T29 t996 0).f5) ((rd_T29 t970 x10_2).f0) ((rd_T29 t970 x10_2).f1) ((rd_T29 t970 x10_2).f2) ((rd_T29 t970 x10_2).f3) ((rd_T29 t970 x10_2).f4) ((rd_T29 t970 x10_2).f5)).bind fun t1004 => (if t1004 = true then (if x9_2.length + t991.length < 1954687338268 then (selvagelaw10_HunksLess.l0 k2 ji8 t970 t983 (x9_2 ++ t991) (wrap64 (x10_2 + 1)) l0_0 l0_1 l0_2 a0_3) else (none)) else (none))) else (none)) else (none)) = some r := by rw [if_pos (show (none : Option Int).isNone = true by rfl)] at H; exact H
       clear H
       have H := H1
       clear H1
       try simp only [errW_none, errW_some]
       replace H := itEn H
       rcases H with ⟨_, _, _, H⟩ | ⟨-, c39b0, c39b1, H⟩
       ·cases H
       replace H := itLn H
       rcases H with ⟨_, _, H⟩ | ⟨c40, c40b0, H⟩
       ·cases H
       have c40b1 : decide (0 < t996.length) = true := decide_eq_true (by omega)
       clear c40
       replace H := bdS H
       obtain ⟨t1004, A41, H⟩ := H
       by_cases c42 : t1004 = true
       rotate_left
       ·rw [if_neg c42] at H
        exact absurd H (by simp)
       subst c42
       have H1 : (if x9_2.length + t991.length < 1954687338268 then (selvagelaw10_HunksLess.l0 k2 ji8 t970 t983 (x9_2 ++ t991) (wrap64 (x10_2 + 1)) l0_0 l0_1 l0_2 a0_3) else (none)) = some r := by rw [if_pos rfl] at H; exact H
       clear H
       have H := H1
       clear H1
       replace H := itLn H
       rcases H with ⟨_, _, H⟩ | ⟨c43, -, H⟩
       ·cases H
       have LMc43 := Aside0.mk c43
       clear c43
       obtain ⟨y1005, hy1005⟩ : ∃ y_ : List (S29), y_ = (x9_2 ++ t991) := ⟨_, rfl⟩
       replace H : (selvagelaw10_HunksLess.l0 k2 ji8 t970 t983 y1005 (wrap64 (x10_2 + 1)) l0_0 l0_1 l0_2 a0_3) = some r := by first | (rw [hy1005]; with_reducible exact H) | (have H2_ := (Option.bind_some _ _).symm.trans H; rw [hy1005]; with_reducible exact H2_) | (have H2_ := (Option.bind_some _ _).symm.trans H; with_reducible exact H2_) | with_reducible exact H | (rw [hy1005]; exact H) | exact H
       have Ny1005 := Aside0.mk hy1005
       clear hy1005
       have H' := Aside0.mk H
       clear H
       obtain ⟨Ao44, co44, eo44⟩ := Kd.N_slice HO_5.out
       subst eo44
       have p990 : 0 ≤ (x10_2 : Int) := ofDec
       have q990 : x10_2 < (t970.length : Int) := ofDec
       obtain ⟨ad990, A990_5, c990_5, e990, hx990_0, hx990_1, hx990_2, hx990_3, hx990_4, hx990_5, hl990_5, hi990_5⟩ := at_T29 (Kd.N_reads' HO_5.out).2.2 x10_2 p990 q990
       cases e990
       obtain ⟨ce990, hce990, hMe990, hcc990⟩ := Kd.N_get HO_5.out z29 x10_2 p990 (by first | exact q990 | exact ofDec | (have e_ := (Kd.N_reads' HO_5.out).1; omega))
       obtain ⟨ua990_5, uc990_5, rfl, ul990_5, ge990_5⟩ := k29_openF hMe990
       have hv990_5 := hcc990 5 _ rfl
       rw [add_field _ _ 5 (by omega)] at hv990_5
       replace hv990_5 := Option.some.inj (hv990_5.symm.trans hx990_5)
       injection hv990_5 with hva_ hvn_ hvc_
       rw [hva_] at ge990_5
       rw [hvc_] at ul990_5
       have HL990_5 := Aside0.mk (show Kd.V k53 53 _ w.heap.size _ _ ((rd_T29 t970 x10_2).f5) from Kd.V_mk ul990_5 ge990_5)
       clear hva_ hvn_ hvc_ ge990_5 ul990_5
       clear hcc990 hce990
       have HR990_5 := Aside0.mk hi990_5
       have HC990_5 := Aside0.mk hl990_5
       clear hi990_5 hl990_5
       replace p990 := eq_true p990
       replace q990 := eq_true q990
       try go_wp2_with (first | ((with_reducible refine gate_callee (f := 26) rfl ?_); refine goesL_ (some 73) rfl rfl Tryz.func26 (by kernel_rfl) rfl #[.agg #[.int .i64 ((rd_T29 t970 x10_2).f0), .int .i64 ((rd_T29 t970 x10_2).f1), .int .i64 ((rd_T29 t970 x10_2).f2), .int .i64 ((rd_T29 t970 x10_2).f3), .string ((rd_T29 t970 x10_2).f4), .slice A990_5 ((rd_T29 t970 x10_2).f5).length c990_5], .int .i64 ji8] rfl (by (try simp only [List.map_toArray, List.map_cons, List.map_nil]); first | done | (simp only [hji8]; rfl) | rfl | (simp only [List.length_drop, List.length_take]; rfl)) ?_; (with_reducible refine (hunks_Narrow.calls k2 ((rd_T29 t970 x10_2).f0) ((rd_T29 t970 x10_2).f1) ((rd_T29 t970 x10_2).f2) ((rd_T29 t970 x10_2).f3) ((rd_T29 t970 x10_2).f4) _ _ ((rd_T29 t970 x10_2).f5) ji8 t991 none _ ?side1 ?side2 A37.out).mono ?_); (case side1 => repeat (first | exact (by repeat (first | (with_reducible exact HR990_5.out) | (with_reducible refine Kd.C_alloc ?_ _) | (with_reducible refine Kd.C_drewN ?_ _) | (with_reducible refine Kd.C_drew ?_) | exact HR990_5.out)) | (with_reducible refine Kd.C_alloc ?_ _) | (with_reducible refine Kd.C_drewN ?_ _) | (with_reducible refine Kd.C_drew ?_))); (case side2 => exact HC990_5.out); rintro e w45 ⟨v992, rfl, ho0, hb⟩; refine ⟨_, rfl, ?_⟩; replace HL990_5 := Aside0.mk (Kd.V_elder' (by (with_reducible repeat (first | apply Kd.V_alloc | apply Kd.V_drewN | apply Kd.V_drew)); exact HL990_5.out) (by first | exact Kd.S_base ho0 | exact Kd.N_base ho0) hb); have HO993 := Aside0.mk (Kd.N_lower (Kd.N_mono (ok' := fun k_ => some k_ ≠ (.slice (some ad990) t970.length co44 : Value).ownBlock ∧ some k_ ≠ (v985 : Value).ownBlock ∧ some k_ ≠ (u9 : Value).ownBlock ∧ k_ ≠ gb960) (Kd.S_N (Kd.S_bound ho0)) (fun k_ hk_ => ⟨(Kd.fresh' (Kd.N_lt (by (with_reducible repeat (first | apply Kd.N_alloc | apply Kd.N_drewN | apply Kd.N_drew)); exact HO_5.out)) k_ hk_.2.1), (Kd.fresh' (Kd.N_lt (by (with_reducible repeat (first | apply Kd.N_alloc | apply Kd.N_drewN | apply Kd.N_drew)); exact HO_7.out)) k_ hk_.2.1), (Kd.fresh' (Kd.N_lt (by (with_reducible repeat (first | apply Kd.N_alloc | apply Kd.N_drewN | apply Kd.N_drew)); exact HO_9.out)) k_ hk_.2.1), (Kd.freshB (g := gb960) (o := .cells #[.slice A0_0 l0_0.length c0_0, .slice A0_1 l0_1.length c0_1, .slice A0_2 l0_2.length c0_2, .int .i64 a0_3] 40 (0, 0)) (bkUp BK960.out) k_ hk_.2.1)⟩)) (below_size (belPut))); replace HO_5 := Aside0.mk (Kd.N_elder' (by (with_reducible repeat (first | apply Kd.N_alloc | apply Kd.N_drewN | apply Kd.N_drew)); exact HO_5.out) (by first | exact Kd.S_base ho0 | exact Kd.N_base ho0) hb); replace HO_7 := Aside0.mk (Kd.N_elder' (by (with_reducible repeat (first | apply Kd.N_alloc | apply Kd.N_drewN | apply Kd.N_drew)); exact HO_7.out) (by first | exact Kd.S_base ho0 | exact Kd.N_base ho0) hb); replace HO_9 := Aside0.mk (Kd.N_elder' (by (with_reducible repeat (first | apply Kd.N_alloc | apply Kd.N_drewN | apply Kd.N_drew)); exact HO_9.out) (by first | exact Kd.S_base ho0 | exact Kd.N_base ho0) hb); replace BK960 := bkD BK960 hb; replace HR990_5 := Aside0.mk (Kd.C_below (by repeat (first | (with_reducible exact HR990_5.out) | (with_reducible refine Kd.C_alloc ?_ _) | (with_reducible refine Kd.C_drewN ?_ _) | (with_reducible refine Kd.C_drew ?_) | exact HR990_5.out)) hb); replace HB := hbD HB hb; clear hb; (try clear ho0); (try simp only [errW_none, errW_some])))
       replace HO_5 := Aside0.mk (Kd.N_drew HO_5.out)
       replace HO_7 := Aside0.mk (Kd.N_drew HO_7.out)
       replace HO_9 := Aside0.mk (Kd.N_drew HO_9.out)
       replace HL990_5 := Aside0.mk (Kd.V_drew HL990_5.out)
       replace HO993 := Aside0.mk (Kd.N_drew HO993.out)
       replace BK960 := Aside0.mk (blk_drew BK960.out)
       replace HR990_5 := Aside0.mk (Kd.C_drew HR990_5.out)
       replace HB := Aside0.mk (below_drew1 HB.out)
       have p995 : 0 ≤ (x10_2 : Int) := ofDec
       have q995 : x10_2 < (t970.length : Int) := ofDec
       obtain ⟨ad995, A995_5, c995_5, e995, hx995_0, hx995_1, hx995_2, hx995_3, hx995_4, hx995_5, hl995_5, hi995_5⟩ := at_T29 (Kd.N_reads' HO_5.out).2.2 x10_2 p995 q995
       obtain rfl : ad990 = ad995 := (by injection e995)
       obtain ⟨ce995, hce995, hMe995, hcc995⟩ := Kd.N_get HO_5.out z29 x10_2 p995 (by first | exact q995 | exact ofDec | (have e_ := (Kd.N_reads' HO_5.out).1; omega))
       obtain ⟨ua995_5, uc995_5, rfl, ul995_5, ge995_5⟩ := k29_openF hMe995
       have hv995_5 := hcc995 5 _ rfl
       rw [add_field _ _ 5 (by omega)] at hv995_5
       replace hv995_5 := Option.some.inj (hv995_5.symm.trans hx995_5)
       injection hv995_5 with hva_ hvn_ hvc_
       rw [hva_] at ge995_5
       rw [hvc_] at ul995_5
       have HL995_5 := Aside0.mk (show Kd.V k53 53 _ w.heap.size _ _ ((rd_T29 t970 x10_2).f5) from Kd.V_mk ul995_5 ge995_5)
       clear hva_ hvn_ hvc_ ge995_5 ul995_5
       clear hcc995 hce995
       have HR995_5 := Aside0.mk hi995_5
       have HC995_5 := Aside0.mk hl995_5
       clear hi995_5 hl995_5
       replace p995 := eq_true p995
       replace q995 := eq_true q995
       refine start_ (n := 12) (S := fun w' => w'.cell? ⟨gb960, 0, none⟩ = some (.slice A0_0 l0_0.length c0_0) ∧ w'.cell? ⟨gb960, 1, none⟩ = some (.slice A0_1 l0_1.length c0_1) ∧ w'.cell? ⟨gb960, 2, none⟩ = some (.slice A0_2 l0_2.length c0_2) ∧ w'.cell? ⟨gb960, 3, none⟩ = some (.int .i64 a0_3) ∧ w'.cell? (ad990.add ((x10_2).toNat * 6)) = some (.int .i64 ((rd_T29 t970 x10_2).f0)) ∧ w'.cell? ⟨(ad990.add ((x10_2).toNat * 6)).block, (ad990.add ((x10_2).toNat * 6)).off + 1, none⟩ = some (.int .i64 ((rd_T29 t970 x10_2).f1)) ∧ w'.cell? ⟨(ad990.add ((x10_2).toNat * 6)).block, (ad990.add ((x10_2).toNat * 6)).off + 2, none⟩ = some (.int .i64 ((rd_T29 t970 x10_2).f2)) ∧ w'.cell? ⟨(ad990.add ((x10_2).toNat * 6)).block, (ad990.add ((x10_2).toNat * 6)).off + 3, none⟩ = some (.int .i64 ((rd_T29 t970 x10_2).f3)) ∧ w'.cell? ⟨(ad990.add ((x10_2).toNat * 6)).block, (ad990.add ((x10_2).toNat * 6)).off + 4, none⟩ = some (.string ((rd_T29 t970 x10_2).f4)) ∧ w'.cell? ⟨(ad990.add ((x10_2).toNat * 6)).block, (ad990.add ((x10_2).toNat * 6)).off + 5, none⟩ = some (.slice A995_5 ((rd_T29 t970 x10_2).f5).length c995_5)) (ds := []) #[false, false, false, false, false, false, false, false, false, false, false, false] (by kernel_rfl) rfl rfl ⟨bc BK960 0, bc BK960 1, bc BK960 2, bc BK960 3, hx995_0, hx995_1, hx995_2, hx995_3, hx995_4, hx995_5⟩ (fun hHeld => ?_); refine with_tabW selvagelaw10_HunksLess.tab11 selvagelaw10_HunksLess.bits11 (fun HT_ HW_ => ?_)
       generalize w45.drew = w46 at HO_5 HO_7 HO_9 HL990_5 HO993 BK960 HR990_5 HB HL995_5 HR995_5 hx995_0 hx995_1 hx995_2 hx995_3 hx995_4 hx995_5 hHeld ⊢
       refine pureT 0 ?_
       refine pureT 1 ?_
       refine pureT 2 ?_
       refine pureT 4 ?_
       refine takeT 3 hHeld ?_
       refine takeT 5 hHeld ?_
       refine one_ (i := 6) (N := some 83) #[true, true, true, true, true, true, true, false, false, false, false, false] rfl rfl (one_of HT_.out (by kernel_rfl)) (by decide) (fun K hK => ?_)
       refine goes_ Tryz.func26 (by kernel_rfl) rfl #[.agg #[.int .i64 ((rd_T29 t970 x10_2).f0), .int .i64 ((rd_T29 t970 x10_2).f1), .int .i64 ((rd_T29 t970 x10_2).f2), .int .i64 ((rd_T29 t970 x10_2).f3), .string ((rd_T29 t970 x10_2).f4), .slice A995_5 ((rd_T29 t970 x10_2).f5).length c995_5], .int .i64 a0_3] (by rfl) rfl rfl argsOk ?_
       with_reducible refine (hunks_Narrow.calls k2 ((rd_T29 t970 x10_2).f0) ((rd_T29 t970 x10_2).f1) ((rd_T29 t970 x10_2).f2) ((rd_T29 t970 x10_2).f3) ((rd_T29 t970 x10_2).f4) _ _ ((rd_T29 t970 x10_2).f5) a0_3 t996 none _ ?side1 ?side2 A38.out).mono ?_
       (case side1 => repeat (first | exact (by repeat (first | (with_reducible exact HR995_5.out) | (with_reducible refine Kd.C_alloc ?_ _) | (with_reducible refine Kd.C_drewN ?_ _) | (with_reducible refine Kd.C_drew ?_) | exact HR995_5.out)) | (with_reducible refine Kd.C_alloc ?_ _) | (with_reducible refine Kd.C_drewN ?_ _) | (with_reducible refine Kd.C_drew ?_)))
       (case side2 => exact HC995_5.out)
       rintro e w47 ⟨v997, rfl, ho0, hb⟩
       have HS4_ := (hb.cell (World.block_lt_of_cell? _ _ (hHeld.2.2.2.2.1))).trans (hHeld.2.2.2.2.1)
       have HS5_ := (hb.cell (World.block_lt_of_cell? _ _ (hHeld.2.2.2.2.2.1))).trans (hHeld.2.2.2.2.2.1)
       have HS6_ := (hb.cell (World.block_lt_of_cell? _ _ (hHeld.2.2.2.2.2.2.1))).trans (hHeld.2.2.2.2.2.2.1)
       have HS7_ := (hb.cell (World.block_lt_of_cell? _ _ (hHeld.2.2.2.2.2.2.2.1))).trans (hHeld.2.2.2.2.2.2.2.1)
       have HS8_ := (hb.cell (World.block_lt_of_cell? _ _ (hHeld.2.2.2.2.2.2.2.2.1))).trans (hHeld.2.2.2.2.2.2.2.2.1)
       have HS9_ := (hb.cell (World.block_lt_of_cell? _ _ (hHeld.2.2.2.2.2.2.2.2.2))).trans (hHeld.2.2.2.2.2.2.2.2.2)
       refine ⟨_, rfl, ?_⟩
       replace HL990_5 := Aside0.mk (Kd.V_elder' (by (with_reducible repeat (first | apply Kd.V_alloc | apply Kd.V_drewN | apply Kd.V_drew)); exact HL990_5.out) (by first | exact Kd.S_base ho0 | exact Kd.N_base ho0) hb)
       replace HL995_5 := Aside0.mk (Kd.V_elder' (by (with_reducible repeat (first | apply Kd.V_alloc | apply Kd.V_drewN | apply Kd.V_drew)); exact HL995_5.out) (by first | exact Kd.S_base ho0 | exact Kd.N_base ho0) hb)
       have HO998 := Aside0.mk (Kd.N_lower (Kd.N_mono (ok' := fun k_ => some k_ ≠ (.slice (some ad990) t970.length co44 : Value).ownBlock ∧ some k_ ≠ (v985 : Value).ownBlock ∧ some k_ ≠ (u9 : Value).ownBlock ∧ some k_ ≠ (v992 : Value).ownBlock ∧ k_ ≠ gb960) (Kd.S_N (Kd.S_bound ho0)) (fun k_ hk_ => ⟨(Kd.fresh' (Kd.N_lt (by (with_reducible repeat (first | apply Kd.N_alloc | apply Kd.N_drewN | apply Kd.N_drew)); exact HO_5.out)) k_ hk_.2.1), (Kd.fresh' (Kd.N_lt (by (with_reducible repeat (first | apply Kd.N_alloc | apply Kd.N_drewN | apply Kd.N_drew)); exact HO_7.out)) k_ hk_.2.1), (Kd.fresh' (Kd.N_lt (by (with_reducible repeat (first | apply Kd.N_alloc | apply Kd.N_drewN | apply Kd.N_drew)); exact HO_9.out)) k_ hk_.2.1), (Kd.fresh' (Kd.N_lt (by (with_reducible repeat (first | apply Kd.N_alloc | apply Kd.N_drewN | apply Kd.N_drew)); exact HO993.out)) k_ hk_.2.1), (Kd.freshB (g := gb960) (o := .cells #[.slice A0_0 l0_0.length c0_0, .slice A0_1 l0_1.length c0_1, .slice A0_2 l0_2.length c0_2, .int .i64 a0_3] 40 (0, 0)) (bkUp BK960.out) k_ hk_.2.1)⟩)) (below_size (belPut)))
       replace HO_5 := Aside0.mk (Kd.N_elder' (by (with_reducible repeat (first | apply Kd.N_alloc | apply Kd.N_drewN | apply Kd.N_drew)); exact HO_5.out) (by first | exact Kd.S_base ho0 | exact Kd.N_base ho0) hb)
       replace HO_7 := Aside0.mk (Kd.N_elder' (by (with_reducible repeat (first | apply Kd.N_alloc | apply Kd.N_drewN | apply Kd.N_drew)); exact HO_7.out) (by first | exact Kd.S_base ho0 | exact Kd.N_base ho0) hb)
       replace HO_9 := Aside0.mk (Kd.N_elder' (by (with_reducible repeat (first | apply Kd.N_alloc | apply Kd.N_drewN | apply Kd.N_drew)); exact HO_9.out) (by first | exact Kd.S_base ho0 | exact Kd.N_base ho0) hb)
       replace HO993 := Aside0.mk (Kd.N_elder' (by (with_reducible repeat (first | apply Kd.N_alloc | apply Kd.N_drewN | apply Kd.N_drew)); exact HO993.out) (by first | exact Kd.S_base ho0 | exact Kd.N_base ho0) hb)
       replace BK960 := bkD BK960 hb
       replace HR990_5 := Aside0.mk (Kd.C_below (by repeat (first | (with_reducible exact HR990_5.out) | (with_reducible refine Kd.C_alloc ?_ _) | (with_reducible refine Kd.C_drewN ?_ _) | (with_reducible refine Kd.C_drew ?_) | exact HR990_5.out)) hb)
       replace HR995_5 := Aside0.mk (Kd.C_below (by repeat (first | (with_reducible exact HR995_5.out) | (with_reducible refine Kd.C_alloc ?_ _) | (with_reducible refine Kd.C_drewN ?_ _) | (with_reducible refine Kd.C_drew ?_) | exact HR995_5.out)) hb)
       replace HB := hbD HB hb
       (try clear hb)
       (try clear hb2)
       (try clear hk)
       (try clear hi)
       (try clear ho0)
       (try simp only [errW_none, errW_some])
       refine hK.out _ _ ⟨bc BK960 0, bc BK960 1, bc BK960 2, bc BK960 3, HS4_, HS5_, HS6_, HS7_, HS8_, HS9_⟩ (fun hHeld => ?_)
       clear hK K
       refine norm_ (a' := ?_) ?_ ?_
       rotate_left
       ·show Act.put _ (some 83) _ = _
        simp only [Act.put, List.setIfInBounds_toArray, List.set_cons_zero, List.set_cons_succ, i64_w, i32_w]
        rfl
       refine pureT 7 ?_
       refine pureT 8 ?_
       refine pureT 9 ?_
       refine pureT 10 ?_
       refine pureT 11 ?_
       refine done_ (done_of HT_.out (by kernel_rfl)) ?_
       try go_wp2
       replace HO_5 := Aside0.mk (Kd.N_drew HO_5.out)
       replace HO_7 := Aside0.mk (Kd.N_drew HO_7.out)
       replace HO_9 := Aside0.mk (Kd.N_drew HO_9.out)
       replace HL990_5 := Aside0.mk (Kd.V_drew HL990_5.out)
       replace HO993 := Aside0.mk (Kd.N_drew HO993.out)
       replace HL995_5 := Aside0.mk (Kd.V_drew HL995_5.out)
       replace HO998 := Aside0.mk (Kd.N_drew HO998.out)
       replace BK960 := Aside0.mk (blk_drew BK960.out)
       replace HR990_5 := Aside0.mk (Kd.C_drew HR990_5.out)
       replace HR995_5 := Aside0.mk (Kd.C_drew HR995_5.out)
       replace HB := Aside0.mk (below_drew1 HB.out)
       obtain ⟨Ao49, co49, eo49⟩ := Kd.N_slice HO998.out
       (first | subst eo49 | (injection eo49 with f1_ f2_ f3_; have f4_ := f1_.symm; have f5_ := f3_.symm; clear f1_ f2_ f3_; subst f4_; subst f5_))
       have p1002 : 0 ≤ (0 : Int) := (by omega)
       have q1002 : 0 < (t996.length : Int) := ofDec
       obtain ⟨ad1002, A1002_5, c1002_5, e1002, hx1002_0, hx1002_1, hx1002_2, hx1002_3, hx1002_4, hx1002_5, hl1002_5, hi1002_5⟩ := at_T29 (Kd.N_reads' HO998.out).2.2 0 p1002 q1002
       cases e1002
       obtain ⟨ce1002, hce1002, hMe1002, hcc1002⟩ := Kd.N_get HO998.out z29 0 p1002 (by first | exact q1002 | exact ofDec | (have e_ := (Kd.N_reads' HO998.out).1; omega))
       obtain ⟨ua1002_5, uc1002_5, rfl, ul1002_5, ge1002_5⟩ := k29_openF hMe1002
       have hv1002_5 := hcc1002 5 _ rfl
       rw [add_field _ _ 5 (by omega)] at hv1002_5
       replace hv1002_5 := Option.some.inj (hv1002_5.symm.trans hx1002_5)
       injection hv1002_5 with hva_ hvn_ hvc_
       rw [hva_] at ge1002_5
       rw [hvc_] at ul1002_5
       have HL1002_5 := Aside0.mk (show Kd.V k53 53 _ w.heap.size _ _ ((rd_T29 t996 0).f5) from Kd.V_mk ul1002_5 ge1002_5)
       clear hva_ hvn_ hvc_ ge1002_5 ul1002_5
       clear hcc1002 hce1002
       have qi1002 : (0 < t996.length) = True := eq_true (by omega)
       (try rw [show ((0 : Int)).toNat = 0 from rfl] at hx1002_0)
       (try rw [show 0 * 6 = 0 from rfl] at hx1002_0)
       (try rw [Addr.add_zero'] at hx1002_0)
       (try rw [show ((0 : Int)).toNat = 0 from rfl] at hx1002_1)
       (try rw [show 0 * 6 = 0 from rfl] at hx1002_1)
       (try rw [Addr.add_zero'] at hx1002_1)
       (try rw [show ((0 : Int)).toNat = 0 from rfl] at hx1002_2)
       (try rw [show 0 * 6 = 0 from rfl] at hx1002_2)
       (try rw [Addr.add_zero'] at hx1002_2)
       (try rw [show ((0 : Int)).toNat = 0 from rfl] at hx1002_3)
       (try rw [show 0 * 6 = 0 from rfl] at hx1002_3)
       (try rw [Addr.add_zero'] at hx1002_3)
       (try rw [show ((0 : Int)).toNat = 0 from rfl] at hx1002_4)
       (try rw [show 0 * 6 = 0 from rfl] at hx1002_4)
       (try rw [Addr.add_zero'] at hx1002_4)
       (try rw [show ((0 : Int)).toNat = 0 from rfl] at hx1002_5)
       (try rw [show 0 * 6 = 0 from rfl] at hx1002_5)
       (try rw [Addr.add_zero'] at hx1002_5)
       have HR1002_5 := Aside0.mk hi1002_5
       have HC1002_5 := Aside0.mk hl1002_5
       clear hi1002_5 hl1002_5
       replace p1002 := eq_true p1002
       replace q1002 := eq_true q1002
       have p1003 : 0 ≤ (x10_2 : Int) := ofDec
       have q1003 : x10_2 < (t970.length : Int) := ofDec
       obtain ⟨ad1003, A1003_5, c1003_5, e1003, hx1003_0, hx1003_1, hx1003_2, hx1003_3, hx1003_4, hx1003_5, hl1003_5, hi1003_5⟩ := at_T29 (Kd.N_reads' HO_5.out).2.2 x10_2 p1003 q1003
       obtain rfl : ad990 = ad1003 := (by injection e1003)
       obtain ⟨ce1003, hce1003, hMe1003, hcc1003⟩ := Kd.N_get HO_5.out z29 x10_2 p1003 (by first | exact q1003 | exact ofDec | (have e_ := (Kd.N_reads' HO_5.out).1; omega))
       obtain ⟨ua1003_5, uc1003_5, rfl, ul1003_5, ge1003_5⟩ := k29_openF hMe1003
       have hv1003_5 := hcc1003 5 _ rfl
       rw [add_field _ _ 5 (by omega)] at hv1003_5
       replace hv1003_5 := Option.some.inj (hv1003_5.symm.trans hx1003_5)
       injection hv1003_5 with hva_ hvn_ hvc_
       rw [hva_] at ge1003_5
       rw [hvc_] at ul1003_5
       have HL1003_5 := Aside0.mk (show Kd.V k53 53 _ w.heap.size _ _ ((rd_T29 t970 x10_2).f5) from Kd.V_mk ul1003_5 ge1003_5)
       clear hva_ hvn_ hvc_ ge1003_5 ul1003_5
       clear hcc1003 hce1003
       have HR1003_5 := Aside0.mk hi1003_5
       have HC1003_5 := Aside0.mk hl1003_5
       clear hi1003_5 hl1003_5
       replace p1003 := eq_true p1003
       replace q1003 := eq_true q1003
       refine start_ (n := 22) (S := fun w' => w'.cell? ad1002 = some (.int .i64 ((rd_T29 t996 0).f0)) ∧ w'.cell? ⟨ad1002.block, ad1002.off + 1, none⟩ = some (.int .i64 ((rd_T29 t996 0).f1)) ∧ w'.cell? ⟨ad1002.block, ad1002.off + 2, none⟩ = some (.int .i64 ((rd_T29 t996 0).f2)) ∧ w'.cell? ⟨ad1002.block, ad1002.off + 3, none⟩ = some (.int .i64 ((rd_T29 t996 0).f3)) ∧ w'.cell? ⟨ad1002.block, ad1002.off + 4, none⟩ = some (.string ((rd_T29 t996 0).f4)) ∧ w'.cell? ⟨ad1002.block, ad1002.off + 5, none⟩ = some (.slice A1002_5 ((rd_T29 t996 0).f5).length c1002_5) ∧ w'.cell? (ad990.add ((x10_2).toNat * 6)) = some (.int .i64 ((rd_T29 t970 x10_2).f0)) ∧ w'.cell? ⟨(ad990.add ((x10_2).toNat * 6)).block, (ad990.add ((x10_2).toNat * 6)).off + 1, none⟩ = some (.int .i64 ((rd_T29 t970 x10_2).f1)) ∧ w'.cell? ⟨(ad990.add ((x10_2).toNat * 6)).block, (ad990.add ((x10_2).toNat * 6)).off + 2, none⟩ = some (.int .i64 ((rd_T29 t970 x10_2).f2)) ∧ w'.cell? ⟨(ad990.add ((x10_2).toNat * 6)).block, (ad990.add ((x10_2).toNat * 6)).off + 3, none⟩ = some (.int .i64 ((rd_T29 t970 x10_2).f3)) ∧ w'.cell? ⟨(ad990.add ((x10_2).toNat * 6)).block, (ad990.add ((x10_2).toNat * 6)).off + 4, none⟩ = some (.string ((rd_T29 t970 x10_2).f4)) ∧ w'.cell? ⟨(ad990.add ((x10_2).toNat * 6)).block, (ad990.add ((x10_2).toNat * 6)).off + 5, none⟩ = some (.slice A1003_5 ((rd_T29 t970 x10_2).f5).length c1003_5)) (ds := []) #[false, false, false, false, false, false, false, false, false, false, false, false, false, false, false, false, false, false, false, false, false, false] (by kernel_rfl) rfl rfl ⟨hx1002_0, hx1002_1, hx1002_2, hx1002_3, hx1002_4, hx1002_5, hx1003_0, hx1003_1, hx1003_2, hx1003_3, hx1003_4, hx1003_5⟩ (fun hHeld => ?_); refine with_tabW selvagelaw10_HunksLess.tab12 selvagelaw10_HunksLess.bits12 (fun HT_ HW_ => ?_)
       generalize w47.drew = w48 at HO_5 HO_7 HO_9 HL990_5 HO993 HL995_5 HO998 BK960 HR990_5 HR995_5 HB HL1002_5 HL1003_5 HR1002_5 HR1003_5 hx1002_0 hx1002_1 hx1002_2 hx1002_3 hx1002_4 hx1002_5 hx1003_0 hx1003_1 hx1003_2 hx1003_3 hx1003_4 hx1003_5 hHeld ⊢
       refine pureT 0 ?_
       refine pureT 1 ?_
       refine pureT 2 ?_
       refine pureT 3 ?_
       refine pureT 4 ?_
       refine pureT 5 ?_
       refine pureT 6 ?_
       refine pureT 7 ?_
       refine pureT 8 ?_
       refine pureT 9 ?_
       refine pureT 10 ?_
       refine pureT 11 ?_
       refine pureT 12 ?_
       refine pureT 13 ?_
       refine pureT 15 ?_
       refine pureT 16 ?_
       refine pureT 17 ?_
       refine takeT 14 hHeld ?_
       refine takeT 18 hHeld ?_
       refine one_ (i := 19) (N := some 105) #[true, true, true, true, true, true, true, true, true, true, true, true, true, true, true, true, true, true, true, true, false, false] rfl rfl (one_of HT_.out (by kernel_rfl)) (by decide) (fun K hK => ?_)
       refine goes_ Tryz.func28 (by kernel_rfl) rfl #[.agg #[.int .i64 ((rd_T29 t996 0).f0), .int .i64 ((rd_T29 t996 0).f1), .int .i64 ((rd_T29 t996 0).f2), .int .i64 ((rd_T29 t996 0).f3), .string ((rd_T29 t996 0).f4), .slice A1002_5 ((rd_T29 t996 0).f5).length c1002_5], .agg #[.int .i64 ((rd_T29 t970 x10_2).f0), .int .i64 ((rd_T29 t970 x10_2).f1), .int .i64 ((rd_T29 t970 x10_2).f2), .int .i64 ((rd_T29 t970 x10_2).f3), .string ((rd_T29 t970 x10_2).f4), .slice A1003_5 ((rd_T29 t970 x10_2).f5).length c1003_5]] (by rfl) rfl rfl argsOk ?_
       with_reducible refine (selvagelaw10_same.calls k2 ((rd_T29 t996 0).f0) ((rd_T29 t996 0).f1) ((rd_T29 t996 0).f2) ((rd_T29 t996 0).f3) ((rd_T29 t996 0).f4) _ _ ((rd_T29 t996 0).f5) ((rd_T29 t970 x10_2).f0) ((rd_T29 t970 x10_2).f1) ((rd_T29 t970 x10_2).f2) ((rd_T29 t970 x10_2).f3) ((rd_T29 t970 x10_2).f4) _ _ ((rd_T29 t970 x10_2).f5) true _ ?side1 ?side2 ?side3 ?side4 A41.out).mono ?_
       (case side1 => repeat (first | exact (by repeat (first | (with_reducible exact HR1002_5.out) | (with_reducible refine Kd.C_alloc ?_ _) | (with_reducible refine Kd.C_drewN ?_ _) | (with_reducible refine Kd.C_drew ?_) | exact HR1002_5.out)) | (with_reducible refine Kd.C_alloc ?_ _) | (with_reducible refine Kd.C_drewN ?_ _) | (with_reducible refine Kd.C_drew ?_)))
       (case side2 => exact HC1002_5.out)
       (case side3 => repeat (first | exact (by repeat (first | (with_reducible exact HR1003_5.out) | (with_reducible refine Kd.C_alloc ?_ _) | (with_reducible refine Kd.C_drewN ?_ _) | (with_reducible refine Kd.C_drew ?_) | exact HR1003_5.out)) | (with_reducible refine Kd.C_alloc ?_ _) | (with_reducible refine Kd.C_drewN ?_ _) | (with_reducible refine Kd.C_drew ?_)))
       (case side4 => exact HC1003_5.out)
       rintro e w50 ⟨rfl, hb⟩
       have HS0_ := (hb.cell (World.block_lt_of_cell? _ _ (hHeld.1))).trans (hHeld.1)
       have HS1_ := (hb.cell (World.block_lt_of_cell? _ _ (hHeld.2.1))).trans (hHeld.2.1)
       have HS2_ := (hb.cell (World.block_lt_of_cell? _ _ (hHeld.2.2.1))).trans (hHeld.2.2.1)
       have HS3_ := (hb.cell (World.block_lt_of_cell? _ _ (hHeld.2.2.2.1))).trans (hHeld.2.2.2.1)
       have HS4_ := (hb.cell (World.block_lt_of_cell? _ _ (hHeld.2.2.2.2.1))).trans (hHeld.2.2.2.2.1)
       have HS5_ := (hb.cell (World.block_lt_of_cell? _ _ (hHeld.2.2.2.2.2.1))).trans (hHeld.2.2.2.2.2.1)
       have HS6_ := (hb.cell (World.block_lt_of_cell? _ _ (hHeld.2.2.2.2.2.2.1))).trans (hHeld.2.2.2.2.2.2.1)
       have HS7_ := (hb.cell (World.block_lt_of_cell? _ _ (hHeld.2.2.2.2.2.2.2.1))).trans (hHeld.2.2.2.2.2.2.2.1)
       have HS8_ := (hb.cell (World.block_lt_of_cell? _ _ (hHeld.2.2.2.2.2.2.2.2.1))).trans (hHeld.2.2.2.2.2.2.2.2.1)
       have HS9_ := (hb.cell (World.block_lt_of_cell? _ _ (hHeld.2.2.2.2.2.2.2.2.2.1))).trans (hHeld.2.2.2.2.2.2.2.2.2.1)
       have HS10_ := (hb.cell (World.block_lt_of_cell? _ _ (hHeld.2.2.2.2.2.2.2.2.2.2.1))).trans (hHeld.2.2.2.2.2.2.2.2.2.2.1)
       have HS11_ := (hb.cell (World.block_lt_of_cell? _ _ (hHeld.2.2.2.2.2.2.2.2.2.2.2))).trans (hHeld.2.2.2.2.2.2.2.2.2.2.2)
       refine ⟨_, rfl, ?_⟩
       replace HO_5 := Aside0.mk (Kd.N_below (by (with_reducible repeat (first | apply Kd.N_alloc | apply Kd.N_drewN | apply Kd.N_drew)); exact HO_5.out) hb)
       replace HO_7 := Aside0.mk (Kd.N_below (by (with_reducible repeat (first | apply Kd.N_alloc | apply Kd.N_drewN | apply Kd.N_drew)); exact HO_7.out) hb)
       replace HO_9 := Aside0.mk (Kd.N_below (by (with_reducible repeat (first | apply Kd.N_alloc | apply Kd.N_drewN | apply Kd.N_drew)); exact HO_9.out) hb)
       replace HL990_5 := Aside0.mk (Kd.V_below (by (with_reducible repeat (first | apply Kd.V_alloc | apply Kd.V_drewN | apply Kd.V_drew)); exact HL990_5.out) hb)
       replace HO993 := Aside0.mk (Kd.N_below (by (with_reducible repeat (first | apply Kd.N_alloc | apply Kd.N_drewN | apply Kd.N_drew)); exact HO993.out) hb)
       replace HL995_5 := Aside0.mk (Kd.V_below (by (with_reducible repeat (first | apply Kd.V_alloc | apply Kd.V_drewN | apply Kd.V_drew)); exact HL995_5.out) hb)
       replace HO998 := Aside0.mk (Kd.N_below (by (with_reducible repeat (first | apply Kd.N_alloc | apply Kd.N_drewN | apply Kd.N_drew)); exact HO998.out) hb)
       replace HL1002_5 := Aside0.mk (Kd.V_below (by (with_reducible repeat (first | apply Kd.V_alloc | apply Kd.V_drewN | apply Kd.V_drew)); exact HL1002_5.out) hb)
       replace HL1003_5 := Aside0.mk (Kd.V_below (by (with_reducible repeat (first | apply Kd.V_alloc | apply Kd.V_drewN | apply Kd.V_drew)); exact HL1003_5.out) hb)
       replace BK960 := bkD BK960 hb
       replace HR990_5 := Aside0.mk (Kd.C_below (by repeat (first | (with_reducible exact HR990_5.out) | (with_reducible refine Kd.C_alloc ?_ _) | (with_reducible refine Kd.C_drewN ?_ _) | (with_reducible refine Kd.C_drew ?_) | exact HR990_5.out)) hb)
       replace HR995_5 := Aside0.mk (Kd.C_below (by repeat (first | (with_reducible exact HR995_5.out) | (with_reducible refine Kd.C_alloc ?_ _) | (with_reducible refine Kd.C_drewN ?_ _) | (with_reducible refine Kd.C_drew ?_) | exact HR995_5.out)) hb)
       replace HR1002_5 := Aside0.mk (Kd.C_below (by repeat (first | (with_reducible exact HR1002_5.out) | (with_reducible refine Kd.C_alloc ?_ _) | (with_reducible refine Kd.C_drewN ?_ _) | (with_reducible refine Kd.C_drew ?_) | exact HR1002_5.out)) hb)
       replace HR1003_5 := Aside0.mk (Kd.C_below (by repeat (first | (with_reducible exact HR1003_5.out) | (with_reducible refine Kd.C_alloc ?_ _) | (with_reducible refine Kd.C_drewN ?_ _) | (with_reducible refine Kd.C_drew ?_) | exact HR1003_5.out)) hb)
       replace HB := hbD HB hb
       (try clear hb)
       (try clear hb2)
       (try clear hk)
       (try clear hi)
       refine hK.out _ _ ⟨HS0_, HS1_, HS2_, HS3_, HS4_, HS5_, HS6_, HS7_, HS8_, HS9_, HS10_, HS11_⟩ (fun hHeld => ?_)
       clear hK K
       refine norm_ (a' := ?_) ?_ ?_
       rotate_left
       ·show Act.put _ (some 105) _ = _
        simp only [Act.put, List.setIfInBounds_toArray, List.set_cons_zero, List.set_cons_succ, i64_w, i32_w]
        rfl
       refine pureT 20 ?_
       refine pureT 21 ?_
       refine done_ (done_of HT_.out (by kernel_rfl)) ?_
       obtain ⟨Ao52, co52, eo52⟩ := Kd.N_slice HO993.out
       subst eo52
       try go_wp2_with (first | ((with_reducible refine gate_builtin (b := .append) (xs := #[.tmp 108, .tmp 109]) rfl ?_); (try (refine gate_guard (by rfl) ?_; dsimp only)); at_builtin; refine Kd.N_append_rows k29 (w0 := w) w.heap.size rfl (.tmp 108) (.tmp 109) 22 29 (.agg #[(.int .i64 0), (.int .i64 0), (.int .i64 0), (.int .i64 0), (.string ⟨#[]⟩), (.slice none 0 0)]) 72 rfl Tryz.underlying22 info29 rfl (by decide) (by omega) u9 x9_2 t991 _ _ _ (fun k_ => some k_ ≠ (.slice (some ad990) t970.length co44 : Value).ownBlock ∧ some k_ ≠ (v985 : Value).ownBlock ∧ some k_ ≠ (.slice (some ad1002) t996.length co49 : Value).ownBlock ∧ k_ ≠ gb960) (fun k_ => ((fun k_ => some k_ ≠ (.slice (some ad990) t970.length co44 : Value).ownBlock ∧ some k_ ≠ (v985 : Value).ownBlock ∧ some k_ ≠ (.slice (some ad1002) t996.length co49 : Value).ownBlock ∧ k_ ≠ gb960)) k_ ∧ some k_ ≠ (u9 : Value).ownBlock) rfl rfl ?aO ?aR (fun _ hk => hk) ?aF ?aB ?aS ?aL ?_; (case aR => exact (by skip; exact Kd.N_F (Kd.N_mono (ok' := (fun k_ => ((fun k_ => some k_ ≠ (.slice (some ad990) t970.length co44 : Value).ownBlock ∧ some k_ ≠ (v985 : Value).ownBlock ∧ some k_ ≠ (.slice (some ad1002) t996.length co49 : Value).ownBlock ∧ k_ ≠ gb960)) k_ ∧ some k_ ≠ (u9 : Value).ownBlock)) (HO993.out) (fun k_ hk => ⟨⟨hk.1.1, ⟨hk.1.2.1, ⟨hk.2, hk.1.2.2.2⟩⟩⟩, hk.1.2.2.1⟩)))); (case aB => exact (belPut)); (case aF => exact (fun k_ hk => ⟨Kd.fresh' (Kd.N_lt (by (with_reducible repeat (first | apply Kd.N_alloc | apply Kd.N_drewN | apply Kd.N_drew)); exact HO_5.out)) k_ hk, Kd.fresh' (Kd.N_lt (by (with_reducible repeat (first | apply Kd.N_alloc | apply Kd.N_drewN | apply Kd.N_drew)); exact HO_7.out)) k_ hk, Kd.fresh' (Kd.N_lt (by (with_reducible repeat (first | apply Kd.N_alloc | apply Kd.N_drewN | apply Kd.N_drew)); exact HO998.out)) k_ hk, Kd.freshB (g := gb960) (o := .cells #[.slice A0_0 l0_0.length c0_0, .slice A0_1 l0_1.length c0_1, .slice A0_2 l0_2.length c0_2, .int .i64 a0_3] 40 (0, 0)) (bkUp BK960.out) k_ hk⟩)); (case aO => exact (by (with_reducible repeat (first | apply Kd.N_alloc | apply Kd.N_drewN | apply Kd.N_drew)); exact Kd.N_mono HO_9.out (fun _ hk => ⟨hk.1.1.1, ⟨hk.1.1.2.1, ⟨hk.2, hk.1.1.2.2⟩⟩⟩))); (case aS => exact (below_size (belPut))); (case aL => have := LMc43.out; omega); intro v1006 w51 ho hb hg hat; rw [← Ny1005.out] at ho; replace HO_5 := Aside0.mk (Kd.N_afterv (ok := (fun k_ => some k_ ≠ (v985 : Value).ownBlock ∧ some k_ ≠ (.slice Ao52 t991.length co52 : Value).ownBlock ∧ some k_ ≠ (.slice (some ad1002) t996.length co49 : Value).ownBlock ∧ k_ ≠ gb960)) (by (with_reducible repeat (first | apply Kd.N_alloc | apply Kd.N_drewN | apply Kd.N_drew)); exact Kd.N_mono HO_5.out (fun _ hk => ⟨⟨hk.1.1.1, ⟨hk.1.2, ⟨hk.2, hk.1.1.2.2⟩⟩⟩, hk.1.1.2.1⟩)) hg hat); replace HO_7 := Aside0.mk (Kd.N_afterv (ok := (fun k_ => some k_ ≠ (.slice (some ad990) t970.length co44 : Value).ownBlock ∧ some k_ ≠ (.slice Ao52 t991.length co52 : Value).ownBlock ∧ some k_ ≠ (.slice (some ad1002) t996.length co49 : Value).ownBlock ∧ k_ ≠ gb960)) (by (with_reducible repeat (first | apply Kd.N_alloc | apply Kd.N_drewN | apply Kd.N_drew)); exact Kd.N_mono HO_7.out (fun _ hk => ⟨⟨hk.1.1.1, ⟨hk.1.2, ⟨hk.2, hk.1.1.2.2⟩⟩⟩, hk.1.1.2.1⟩)) hg hat); replace BK960 := Aside0.mk (blk_grown (g := gb960) (o := .cells #[.slice A0_0 l0_0.length c0_0, .slice A0_1 l0_1.length c0_1, .slice A0_2 l0_2.length c0_2, .int .i64 a0_3] 40 (0, 0)) (bkUp BK960.out) hg (Kd.N_ne HO_9.out BK960.out (by decide))); replace HL990_5 := Aside0.mk (Kd.V_afterv (ok := (fun k_ => some k_ ≠ (.slice (some ad990) t970.length co44 : Value).ownBlock ∧ some k_ ≠ (v985 : Value).ownBlock ∧ some k_ ≠ (.slice Ao52 t991.length co52 : Value).ownBlock ∧ some k_ ≠ (.slice (some ad1002) t996.length co49 : Value).ownBlock ∧ k_ ≠ gb960)) (by (with_reducible repeat (first | apply Kd.V_alloc | apply Kd.V_drewN | apply Kd.V_drew)); exact Kd.V_mono HL990_5.out (fun _ hk => ⟨⟨hk.1.1.2, ⟨hk.1.1.1.1, ⟨hk.1.2, ⟨hk.2, hk.1.1.1.2.2⟩⟩⟩⟩, hk.1.1.1.2.1⟩)) hg hat); replace HO993 := Aside0.mk (Kd.N_afterv (ok := (fun k_ => some k_ ≠ (.slice (some ad990) t970.length co44 : Value).ownBlock ∧ some k_ ≠ (v985 : Value).ownBlock ∧ some k_ ≠ (.slice (some ad1002) t996.length co49 : Value).ownBlock ∧ k_ ≠ gb960)) (by (with_reducible repeat (first | apply Kd.N_alloc | apply Kd.N_drewN | apply Kd.N_drew)); exact Kd.N_mono HO993.out (fun _ hk => ⟨⟨hk.1.1, ⟨hk.1.2.1, ⟨hk.2, hk.1.2.2.2⟩⟩⟩, hk.1.2.2.1⟩)) hg hat); replace HL995_5 := Aside0.mk (Kd.V_afterv (ok := (fun k_ => some k_ ≠ (.slice (some ad990) t970.length co44 : Value).ownBlock ∧ some k_ ≠ (v985 : Value).ownBlock ∧ some k_ ≠ (.slice Ao52 t991.length co52 : Value).ownBlock ∧ some k_ ≠ (.slice (some ad1002) t996.length co49 : Value).ownBlock ∧ k_ ≠ gb960)) (by (with_reducible repeat (first | apply Kd.V_alloc | apply Kd.V_drewN | apply Kd.V_drew)); exact Kd.V_mono HL995_5.out (fun _ hk => ⟨⟨hk.1.2, ⟨hk.1.1.1.1, ⟨hk.1.1.2, ⟨hk.2, hk.1.1.1.2.2⟩⟩⟩⟩, hk.1.1.1.2.1⟩)) hg hat); replace HO998 := Aside0.mk (Kd.N_afterv (ok := (fun k_ => some k_ ≠ (.slice (some ad990) t970.length co44 : Value).ownBlock ∧ some k_ ≠ (v985 : Value).ownBlock ∧ some k_ ≠ (.slice Ao52 t991.length co52 : Value).ownBlock ∧ k_ ≠ gb960)) (by (with_reducible repeat (first | apply Kd.N_alloc | apply Kd.N_drewN | apply Kd.N_drew)); exact Kd.N_mono HO998.out (fun _ hk => ⟨⟨hk.1, ⟨hk.2.1, ⟨hk.2.2.2.1, hk.2.2.2.2⟩⟩⟩, hk.2.2.1⟩)) hg hat); replace HL1002_5 := Aside0.mk (Kd.V_afterv (ok := (fun k_ => some k_ ≠ (.slice (some ad990) t970.length co44 : Value).ownBlock ∧ some k_ ≠ (v985 : Value).ownBlock ∧ some k_ ≠ (.slice Ao52 t991.length co52 : Value).ownBlock ∧ some k_ ≠ (.slice (some ad1002) t996.length co49 : Value).ownBlock ∧ k_ ≠ gb960)) (by (with_reducible repeat (first | apply Kd.V_alloc | apply Kd.V_drewN | apply Kd.V_drew)); exact Kd.V_mono HL1002_5.out (fun _ hk => ⟨⟨hk.1.1, ⟨hk.1.2.1, ⟨hk.1.2.2.2.1, ⟨hk.2, hk.1.2.2.2.2⟩⟩⟩⟩, hk.1.2.2.1⟩)) hg hat); replace HL1003_5 := Aside0.mk (Kd.V_afterv (ok := (fun k_ => some k_ ≠ (.slice (some ad990) t970.length co44 : Value).ownBlock ∧ some k_ ≠ (v985 : Value).ownBlock ∧ some k_ ≠ (.slice Ao52 t991.length co52 : Value).ownBlock ∧ some k_ ≠ (.slice (some ad1002) t996.length co49 : Value).ownBlock ∧ k_ ≠ gb960)) (by (with_reducible repeat (first | apply Kd.V_alloc | apply Kd.V_drewN | apply Kd.V_drew)); exact Kd.V_mono HL1003_5.out (fun _ hk => ⟨⟨hk.2, ⟨hk.1.1.1.1, ⟨hk.1.1.2, ⟨hk.1.2, hk.1.1.1.2.2⟩⟩⟩⟩, hk.1.1.1.2.1⟩)) hg hat); replace HB := Aside0.mk hb; have HO1007 := Aside0.mk (ho); clear HO_9; clear ho hb hg hat))
       go_roundg k2
       case measure => have := HJ12.out; have := HK2.out; omega
       case rel => exact ⟨(y1005), (wrap64 (x10_2 + 1)), eqNow, H', ⟨by have := HJ12.out; have := HK2.out; omega⟩, ⟨by (with_reducible repeat (first | apply Kd.N_alloc | apply Kd.N_drewN | apply Kd.N_drew)); exact Kd.N_mono HO_5.out (fun _ hk => ⟨hk.1.1, ⟨hk.2, hk.1.2.2.2⟩⟩)⟩, ⟨by (with_reducible repeat (first | apply Kd.N_alloc | apply Kd.N_drewN | apply Kd.N_drew)); exact Kd.N_mono HO_7.out (fun _ hk => ⟨hk.1.1, ⟨hk.2, hk.1.2.2.2⟩⟩)⟩, ⟨by (with_reducible repeat (first | apply Kd.N_alloc | apply Kd.N_drewN | apply Kd.N_drew)); exact Kd.N_mono HO1007.out (fun _ hk => ⟨hk.1, ⟨hk.2.1, hk.2.2.2⟩⟩)⟩, ⟨bkUp BK960.out⟩, ⟨belPut⟩⟩
      have H1 : (none) = some r := by rw [if_neg (show ¬ (some q1001).isNone = true by simp)] at H; exact H
      exact absurd H1 (by simp)
     have H1 : (none) = some r := by rw [if_neg (show ¬ (some q1000).isNone = true by simp)] at H; exact H
     exact absurd H1 (by simp)
end Go.Proofs.YtecjoofjiockkaaGreatDoor.Pp
