import Derived.Test.YtecjoofjiockkaaDoorESt
import Derived.Test.YtecjoofjiockkaaDoorPp0
import Derived.Test.YtecjoofjiockkaaDoorPp14
set_option linter.unusedVariables false
set_option linter.unusedSimpArgs false
namespace Go.Proofs.YtecjoofjiockkaaDoor.Pp
open Go.RowKit Go.Proofs.YtecjoofjiockkaaDoor.Ext Go.Proofs.YtecjoofjiockkaaDoorW.PrintWords Go.Proofs.YtecjoofjiockkaaDoorW.PrintLast Go.Proofs.YtecjoofjiockkaaDoorW.PrintMore
attribute [local go_sem] max2_int min2_int max_two min_two max_three min_three max_four min_four
mutual
def hunks_builder_hunk.j0 : Nat → List (S53) → Int → Int → List ByteArray → List ByteArray → Int → Int → Int → Int → Option (Int × Int × Int × Int × ByteArray × (List (S56)))
 | 0, _, _, _, _, _, _, _, _, _ => none
 | k + 1, x1, x9, x10, x258000, x258001, x262000, x262001, x262002, x262003 => hunks_builder_hunk.l0 k x9 x10 x9 x1 (x1.length : Int) 0 x258000 x258001 x9 0 (wrap64 (x262002 - (wrap64 (x262000 - x9)))) 0 (⟨#[]⟩ : ByteArray) ([] : List (S56))
def hunks_builder_hunk.l0 : Nat → Int → Int → Int → List (S53) → Int → Int → List ByteArray → List ByteArray → Int → Int → Int → Int → ByteArray → List (S56) → Option (Int × Int × Int × Int × ByteArray × (List (S56)))
 | 0, _, _, _, _, _, _, _, _, _, _, _, _, _, _ => none
 | k + 1, x9, x10, x13, x56, x57, x58, x258000, x258001, x264000, x264001, x264002, x264003, x264004, x264005 => if x58 < x57 then (if 0 ≤ x58 then (if x58 < (x56.length : Int) then (if 0 ≤ x13 then (if x13 ≤ ((rd_T53 x56 x58).f0) then (if ((rd_T53 x56 x58).f0) ≤ (x258000.length : Int) then ((hunks_rows.f k x264005 1 ((x258000.take (((rd_T53 x56 x58).f0) : Int).toNat).drop (x13 : Int).toNat)).bind fun t267 => (if 0 ≤ ((rd_T53 x56 x58).f0) then (if ((rd_T53 x56 x58).f0) ≤ (wrap64 (((rd_T53 x56 x58).f0) + ((rd_T53 x56 x58).f1))) then (if (wrap64 (((rd_T53 x56 x58).f0) + ((rd_T53 x56 x58).f1))) ≤ (x258000.length : Int) then ((hunks_rows.f k t267 2 ((x258000.take ((wrap64 (((rd_T53 x56 x58).f0) + ((rd_T53 x56 x58).f1))) : Int).toNat).drop (((rd_T53 x56 x58).f0) : Int).toNat)).bind fun t271 => (if 0 ≤ ((rd_T53 x56 x58).f2) then (if ((rd_T53 x56 x58).f2) ≤ (wrap64 (((rd_T53 x56 x58).f2) + ((rd_T53 x56 x58).f3))) then (if (wrap64 (((rd_T53 x56 x58).f2) + ((rd_T53 x56 x58).f3))) ≤ (x258001.length : Int) then ((hunks_rows.f k t271 3 ((x258001.take ((wrap64 (((rd_T53 x56 x58).f2) + ((rd_T53 x56 x58).f3))) : Int).toNat).drop (((rd_T53 x56 x58).f2) : Int).toNat)).bind fun t275 => (hunks_builder_hunk.l0 k x9 x10 (wrap64 (((rd_T53 x56 x58).f0) + ((rd_T53 x56 x58).f1))) x56 x57 (wrap64 (x58 + 1)) x258000 x258001 x264000 x264001 x264002 (wrap64 (x264003 + (wrap64 (((rd_T53 x56 x58).f3) - ((rd_T53 x56 x58).f1))))) x264004 t275)) else (none)) else (none)) else (none))) else (none)) else (none)) else (none))) else (none)) else (none)) else (none)) else (none)) else (none)) else (if 0 ≤ x13 then (if x13 ≤ x10 then (if x10 ≤ (x258000.length : Int) then ((hunks_rows.f k x264005 1 ((x258000.take (x10 : Int).toNat).drop (x13 : Int).toNat)).bind fun t279 => (if (wrap64 (x10 - x9)) > 0 then (if (wrap64 (x264003 + (wrap64 (x10 - x9)))) > 0 then (some (wrap64 (x264000 + 1), wrap64 (x10 - x9), wrap64 (x264002 + 1), wrap64 (x264003 + (wrap64 (x10 - x9))), x264004, t279)) else (some (wrap64 (x264000 + 1), wrap64 (x10 - x9), x264002, wrap64 (x264003 + (wrap64 (x10 - x9))), x264004, t279))) else (if (wrap64 (x264003 + (wrap64 (x10 - x9)))) > 0 then (some (x264000, wrap64 (x10 - x9), wrap64 (x264002 + 1), wrap64 (x264003 + (wrap64 (x10 - x9))), x264004, t279)) else (some (x264000, wrap64 (x10 - x9), x264002, wrap64 (x264003 + (wrap64 (x10 - x9))), x264004, t279))))) else (none)) else (none)) else (none))
end
def hunks_builder_hunk.f (k : Nat) (l0_0 : List ByteArray) (l0_1 : List ByteArray) (l1 : List (S53)) (a2 : Int) : Option (Int × Int × Int × Int × ByteArray × (List (S56))) := if 0 < (l1.length : Int) then (if 0 ≤ (wrap64 ((l1.length : Int) - 1)) then (if (wrap64 ((l1.length : Int) - 1)) < (l1.length : Int) then (if a2 < (wrap64 ((l0_0.length : Int) - (wrap64 (((rd_T53 l1 (wrap64 ((l1.length : Int) - 1))).f0) + ((rd_T53 l1 (wrap64 ((l1.length : Int) - 1))).f1))))) then (hunks_builder_hunk.j0 k l1 (mx (wrap64 (((rd_T53 l1 0).f0) - a2)) 0) (wrap64 ((wrap64 (((rd_T53 l1 (wrap64 ((l1.length : Int) - 1))).f0) + ((rd_T53 l1 (wrap64 ((l1.length : Int) - 1))).f1))) + a2)) l0_0 l0_1 ((rd_T53 l1 0).f0) ((rd_T53 l1 0).f1) ((rd_T53 l1 0).f2) ((rd_T53 l1 0).f3)) else (hunks_builder_hunk.j0 k l1 (mx (wrap64 (((rd_T53 l1 0).f0) - a2)) 0) (l0_0.length : Int) l0_0 l0_1 ((rd_T53 l1 0).f0) ((rd_T53 l1 0).f1) ((rd_T53 l1 0).f2) ((rd_T53 l1 0).f3))) else (none)) else (none)) else (none)
theorem hunks_builder_hunk.mono_l : ∀ k, (∀ y0 y1 y2 y3 y4 y5 y6 y7 y8, LeO (hunks_builder_hunk.j0 k y0 y1 y2 y3 y4 y5 y6 y7 y8) (hunks_builder_hunk.j0 (k + 1) y0 y1 y2 y3 y4 y5 y6 y7 y8)) ∧ (∀ y0 y1 y2 y3 y4 y5 y6 y7 y8 y9 y10 y11 y12 y13, LeO (hunks_builder_hunk.l0 k y0 y1 y2 y3 y4 y5 y6 y7 y8 y9 y10 y11 y12 y13) (hunks_builder_hunk.l0 (k + 1) y0 y1 y2 y3 y4 y5 y6 y7 y8 y9 y10 y11 y12 y13))
 | 0 => ⟨fun _ _ _ _ _ _ _ _ _ r h => by simp [hunks_builder_hunk.j0] at h, fun _ _ _ _ _ _ _ _ _ _ _ _ _ _ r h => by simp [hunks_builder_hunk.l0] at h⟩
 | k + 1 => by
  obtain ⟨ih0, ih1⟩ := hunks_builder_hunk.mono_l k
  refine ⟨?_, ?_⟩
  ·intro y0 y1 y2 y3 y4 y5 y6 y7 y8
   unfold hunks_builder_hunk.j0
   repeat' first
   | (with_reducible exact ih0 _ _ _ _ _ _ _ _ _)
   | (with_reducible exact ih1 _ _ _ _ _ _ _ _ _ _ _ _ _ _)
   | (with_reducible exact hunks_rows.mono _ _ _ _)
   | (with_reducible exact LeO.refl _)
   | (with_reducible exact LeO.none _)
   | (with_reducible refine LeO.ite ?_ ?_)
   | (with_reducible refine LeO.bind ?_ (fun _ => ?_))
   | exact ih0 _ _ _ _ _ _ _ _ _
   | exact ih1 _ _ _ _ _ _ _ _ _ _ _ _ _ _
   | exact hunks_rows.mono _ _ _ _
   | exact LeO.none _
   | refine LeO.ite ?_ ?_
   | refine LeO.bind ?_ (fun _ => ?_)
  ·intro y0 y1 y2 y3 y4 y5 y6 y7 y8 y9 y10 y11 y12 y13
   unfold hunks_builder_hunk.l0
   repeat' first
   | (with_reducible exact ih0 _ _ _ _ _ _ _ _ _)
   | (with_reducible exact ih1 _ _ _ _ _ _ _ _ _ _ _ _ _ _)
   | (with_reducible exact hunks_rows.mono _ _ _ _)
   | (with_reducible exact LeO.refl _)
   | (with_reducible exact LeO.none _)
   | (with_reducible refine LeO.ite ?_ ?_)
   | (with_reducible refine LeO.bind ?_ (fun _ => ?_))
   | exact ih0 _ _ _ _ _ _ _ _ _
   | exact ih1 _ _ _ _ _ _ _ _ _ _ _ _ _ _
   | exact hunks_rows.mono _ _ _ _
   | exact LeO.none _
   | refine LeO.ite ?_ ?_
   | refine LeO.bind ?_ (fun _ => ?_)
theorem hunks_builder_hunk.mono : ∀ a0 a1 a2 a3 k, LeO (hunks_builder_hunk.f k a0 a1 a2 a3) (hunks_builder_hunk.f (k + 1) a0 a1 a2 a3) := by
 intro a0 a1 a2 a3 k
 obtain ⟨ih0, ih1⟩ := hunks_builder_hunk.mono_l k
 unfold hunks_builder_hunk.f
 repeat' first
   | (with_reducible exact ih0 _ _ _ _ _ _ _ _ _)
   | (with_reducible exact ih1 _ _ _ _ _ _ _ _ _ _ _ _ _ _)
   | (with_reducible exact hunks_rows.mono _ _ _ _)
   | (with_reducible exact LeO.refl _)
   | (with_reducible exact LeO.none _)
   | (with_reducible refine LeO.ite ?_ ?_)
   | (with_reducible refine LeO.bind ?_ (fun _ => ?_))
   | exact ih0 _ _ _ _ _ _ _ _ _
   | exact ih1 _ _ _ _ _ _ _ _ _ _ _ _ _ _
   | exact hunks_rows.mono _ _ _ _
   | exact LeO.none _
   | refine LeO.ite ?_ ?_
   | refine LeO.bind ?_ (fun _ => ?_)
def hunks_builder_hunk.T1 : Bool × List (List Nat × List Nat) := (true, [([], []), ([0], [0]), ([1], [1]), ([], []), ([], []), ([4], [4]), ([5], [5]), ([3, 6], [3, 6]), ([7], [7]), ([], []), ([], []), ([9, 2, 0, 1, 2, 9, 10], [2, 9]), ([10, 8, 11, 0, 1, 2, 3, 4, 5, 6, 7, 8, 9, 10, 11], [8, 10])])
def hunks_builder_hunk.B1 : List Nat := [0, 1, 3, 0, 0, 16, 48, 120, 248, 0, 0, 1543, 4095]
theorem hunks_builder_hunk.tab1 : rtab .any (opsOf Tryd.f23 1) = hunks_builder_hunk.T1 := by kernel_rfl
theorem hunks_builder_hunk.bits1 : waitsOk hunks_builder_hunk.T1.2 hunks_builder_hunk.B1 = true := by kernel_rfl
def hunks_builder_hunk.T12 : Bool × List (List Nat × List Nat) := (true, [([], []), ([0], [0]), ([], []), ([2], [2]), ([], []), ([], []), ([5], [5]), ([3, 4, 6], [3, 4, 6]), ([1, 7], [1, 7]), ([0, 1, 2, 3, 4, 5, 6, 7, 8], []), ([9, 8, 8, 0, 1, 2, 3, 4, 5, 6, 7, 8], [8, 9])])
def hunks_builder_hunk.B12 : List Nat := [0, 1, 0, 4, 0, 0, 32, 124, 255, 511, 1023]
theorem hunks_builder_hunk.tab12 : rtab .any (opsOf Tryd.f23 12) = hunks_builder_hunk.T12 := by kernel_rfl
theorem hunks_builder_hunk.bits12 : waitsOk hunks_builder_hunk.T12.2 hunks_builder_hunk.B12 = true := by kernel_rfl
def hunks_builder_hunk.T13 : Bool × List (List Nat × List Nat) := (true, [([], []), ([0], [0]), ([], []), ([2], [2]), ([], []), ([4], [4]), ([], []), ([6], [6]), ([], []), ([8], [8]), ([7, 9], [7, 9]), ([3, 5, 10], [3, 5, 10]), ([1, 11], [1, 11]), ([0, 1, 2, 3, 4, 5, 6, 7, 8, 9, 10, 11, 12], []), ([13, 12, 12, 0, 1, 2, 3, 4, 5, 6, 7, 8, 9, 10, 11, 12], [12, 13])])
def hunks_builder_hunk.B13 : List Nat := [0, 1, 0, 4, 0, 16, 0, 64, 0, 256, 960, 2044, 4095, 8191, 16383]
theorem hunks_builder_hunk.tab13 : rtab .any (opsOf Tryd.f23 13) = hunks_builder_hunk.T13 := by kernel_rfl
theorem hunks_builder_hunk.bits13 : waitsOk hunks_builder_hunk.T13.2 hunks_builder_hunk.B13 = true := by kernel_rfl
def hunks_builder_hunk.T14 : Bool × List (List Nat × List Nat) := (true, [([], []), ([0], [0]), ([], []), ([2], [2]), ([], []), ([4], [4]), ([], []), ([6], [6]), ([], []), ([8], [8]), ([7, 9], [7, 9]), ([3, 5, 10], [3, 5, 10]), ([1, 11], [1, 11]), ([0, 1, 2, 3, 4, 5, 6, 7, 8, 9, 10, 11, 12], []), ([13, 12, 12, 0, 1, 2, 3, 4, 5, 6, 7, 8, 9, 10, 11, 12], [12, 13])])
def hunks_builder_hunk.B14 : List Nat := [0, 1, 0, 4, 0, 16, 0, 64, 0, 256, 960, 2044, 4095, 8191, 16383]
theorem hunks_builder_hunk.tab14 : rtab .any (opsOf Tryd.f23 14) = hunks_builder_hunk.T14 := by kernel_rfl
theorem hunks_builder_hunk.bits14 : waitsOk hunks_builder_hunk.T14.2 hunks_builder_hunk.B14 = true := by kernel_rfl
def hunks_builder_hunk.T18 : Bool × List (List Nat × List Nat) := (true, [([], []), ([0], [0]), ([], []), ([2], [2]), ([], []), ([], []), ([3, 4, 5], [3, 4, 5]), ([1, 6], [1, 6]), ([0, 1, 2, 3, 4, 5, 6, 7], []), ([8, 7, 7, 0, 1, 2, 3, 4, 5, 6, 7], [7, 8])])
def hunks_builder_hunk.B18 : List Nat := [0, 1, 0, 4, 0, 0, 60, 127, 255, 511]
theorem hunks_builder_hunk.tab18 : rtab .any (opsOf Tryd.f23 18) = hunks_builder_hunk.T18 := by kernel_rfl
theorem hunks_builder_hunk.bits18 : waitsOk hunks_builder_hunk.T18.2 hunks_builder_hunk.B18 = true := by kernel_rfl
set_option maxHeartbeats 80000000 in
set_option maxRecDepth 100000 in
theorem hunks_builder_hunk.calls (k : Nat) (A0_0 : Option Addr) (c0_0 : Nat) (l0_0 : List ByteArray) (A0_1 : Option Addr) (c0_1 : Nat) (l0_1 : List ByteArray) (A1 : Option Addr) (c1 : Nat) (l1 : List (S53)) (a2 : Int) (r1 : Int) (r2 : Int) (r3 : Int) (r4 : Int) (r5 : ByteArray) (r6 : List (S56)) (w : World) (hr0_0 : Kd.C Kd.string w A0_0 l0_0.length l0_0) (hc0_0 : l0_0.length ≤ c0_0) (hr0_1 : Kd.C Kd.string w A0_1 l0_1.length l0_1) (hc0_1 : l0_1.length ≤ c0_1) (hr1 : Kd.C k53 w A1 l1.length l1) (hc1 : l1.length ≤ c1) (h : hunks_builder_hunk.f k l0_0 l0_1 l1 a2 = some (r1, r2, r3, r4, r5, r6)) :
  Calls Tryd.prog 23 #[.agg #[.slice A0_0 l0_0.length c0_0, .slice A0_1 l0_1.length c0_1], .slice A1 l1.length c1, .int .i64 a2] w fun e w' => ∃ v5_ : Value, e = .returned (.agg #[.int .i64 r1, .int .i64 r2, .int .i64 r3, .int .i64 r4, .string r5, v5_]) ∧ Kd.R k56 56 w' w.heap.size (fun _ => True) v5_ r6 ∧ Below w.heap.size w w' := by
 have hu97 := Tryd.underlying62
 have hu29 := Tryd.underlying41
 have hu49 := Tryd.underlying53
 have HR0_0 := Aside0.mk hr0_0
 have HC0_0 := Aside0.mk hc0_0
 clear hr0_0 hc0_0
 have HR0_1 := Aside0.mk hr0_1
 have HC0_1 := Aside0.mk hc0_1
 clear hr0_1 hc0_1
 have HR1 := Aside0.mk hr1
 have HC1 := Aside0.mk hc1
 clear hr1 hc1
 have HB := Aside0.mk (Below.refl w.heap.size w)
 have H : (if 0 < (l1.length : Int) then (if 0 ≤ (wrap64 ((l1.length : Int) - 1)) then (if (wrap64 ((l1.length : Int) - 1)) < (l1.length : Int) then (if a2 < (wrap64 ((l0_0.length : Int) - (wrap64 (((rd_T53 l1 (wrap64 ((l1.length : Int) - 1))).f0) + ((rd_T53 l1 (wrap64 ((l1.length : Int) - 1))).f1))))) then (hunks_builder_hunk.j0 k l1 (mx (wrap64 (((rd_T53 l1 0).f0) - a2)) 0) (wrap64 ((wrap64 (((rd_T53 l1 (wrap64 ((l1.length : Int) - 1))).f0) + ((rd_T53 l1 (wrap64 ((l1.length : Int) - 1))).f1))) + a2)) l0_0 l0_1 ((rd_T53 l1 0).f0) ((rd_T53 l1 0).f1) ((rd_T53 l1 0).f2) ((rd_T53 l1 0).f3)) else (hunks_builder_hunk.j0 k l1 (mx (wrap64 (((rd_T53 l1 0).f0) - a2)) 0) (l0_0.length : Int) l0_0 l0_1 ((rd_T53 l1 0).f0) ((rd_T53 l1 0).f1) ((rd_T53 l1 0).f2) ((rd_T53 l1 0).f3))) else (none)) else (none)) else (none)) = some (r1, r2, r3, r4, r5, r6) := h
 clear h
 by_cases c4 : 0 < (l1.length : Int)
 rotate_left
 ·rw [if_neg c4] at H
  exact absurd H (by simp)
 rw [if_pos c4] at H
 have c4b0 := decide_eq_true c4
 have c4b1 : decide (0 < l1.length) = true := decide_eq_true (by omega)
 clear c4
 obtain ⟨ji5, hji5⟩ : ∃ j_ : Int, (wrap64 ((l1.length : Int) - 1)) = j_ := ⟨_, rfl⟩
 replace H : (if 0 ≤ (ji5) then (if (ji5) < (l1.length : Int) then (if a2 < (wrap64 ((l0_0.length : Int) - (wrap64 (((rd_T53 l1 (ji5)).f0) + ((rd_T53 l1 (ji5)).f1))))) then (hunks_builder_hunk.j0 k l1 (mx (wrap64 (((rd_T53 l1 0).f0) - a2)) 0) (wrap64 ((wrap64 (((rd_T53 l1 (ji5)).f0) + ((rd_T53 l1 (ji5)).f1))) + a2)) l0_0 l0_1 ((rd_T53 l1 0).f0) ((rd_T53 l1 0).f1) ((rd_T53 l1 0).f2) ((rd_T53 l1 0).f3)) else (hunks_builder_hunk.j0 k l1 (mx (wrap64 (((rd_T53 l1 0).f0) - a2)) 0) (l0_0.length : Int) l0_0 l0_1 ((rd_T53 l1 0).f0) ((rd_T53 l1 0).f1) ((rd_T53 l1 0).f2) ((rd_T53 l1 0).f3))) else (none)) else (none)) = some (r1, r2, r3, r4, r5, r6) := by first | (rw [hji5] at H; exact H) | (simp only [hji5] at H ⊢; exact H)
 have hji5w : (IntKind.i64.wrap ((l1.length : Int) - 1)) = ji5 := (i64_w _).trans hji5
 by_cases c6 : 0 ≤ (ji5)
 rotate_left
 ·rw [if_neg c6] at H
  exact absurd H (by simp)
 rw [if_pos c6] at H
 have c6b0 := decide_eq_true c6
 clear c6
 by_cases c7 : (ji5) < (l1.length : Int)
 rotate_left
 ·rw [if_neg c7] at H
  exact absurd H (by simp)
 rw [if_pos c7] at H
 have c7b0 := decide_eq_true c7
 clear c7
 obtain ⟨ji8, hji8⟩ : ∃ j_ : Int, (mx (wrap64 (((rd_T53 l1 0).f0) - a2)) 0) = j_ := ⟨_, rfl⟩
 replace H : (if a2 < (wrap64 ((l0_0.length : Int) - (wrap64 (((rd_T53 l1 (ji5)).f0) + ((rd_T53 l1 (ji5)).f1))))) then (hunks_builder_hunk.j0 k l1 ji8 (wrap64 ((wrap64 (((rd_T53 l1 (ji5)).f0) + ((rd_T53 l1 (ji5)).f1))) + a2)) l0_0 l0_1 ((rd_T53 l1 0).f0) ((rd_T53 l1 0).f1) ((rd_T53 l1 0).f2) ((rd_T53 l1 0).f3)) else (hunks_builder_hunk.j0 k l1 ji8 (l0_0.length : Int) l0_0 l0_1 ((rd_T53 l1 0).f0) ((rd_T53 l1 0).f1) ((rd_T53 l1 0).f2) ((rd_T53 l1 0).f3))) = some (r1, r2, r3, r4, r5, r6) := by first | (rw [hji8] at H; exact H) | (simp only [hji8] at H ⊢; exact H)
 (try (have hji8l : 0 ≤ ji8 := by (rw [← hji8]; unfold mx; (repeat' split) <;> omega)))
 (try (have hji8m : 0 ≤ ji8 := by omega))
 have hji8_ : (if (wrap64 (((rd_T53 l1 0).f0) - a2)) < 0 then 0 else (wrap64 (((rd_T53 l1 0).f0) - a2))) = ji8 := hji8
 have HC9 := Aside0.mk H
 clear H
 go_enter Tryd.func23, Tryd.ntmps23
 try simp only [List.append_eq, List.cons_append, List.nil_append]
 try go_wp2_with (first | ((with_reducible refine gate_dst (N := 3) rfl ?_); refine boxEv (N := 3) #[.slice A0_0 l0_0.length c0_0, .slice A0_1 l0_1.length c0_1] 62 ?_; intro gb257 hg w10 hbox hb; have n0_ := Aside0.mk (below_step belNow hb); have n1_ := Aside0.mk (hbox); have n2_ := Aside0.mk (bszNow (w := w) hg); have n3_ := Aside0.mk (bszNow (w := w) hg); clear HB; have HB := n0_; have BK257 := n1_; have GW257 := n2_; have GE257 := n3_; clear n0_ n1_ n2_ n3_; clear hb hbox hg) | ((with_reducible refine gate_dst (N := 6) rfl ?_); refine boxEv (N := 6) #[.int .i64 0, .int .i64 0, .int .i64 0, .int .i64 0, .string (⟨#[]⟩ : ByteArray), .slice none 0 0] 41 ?_; intro gb258 hg w11 hbox hb; have n0_ := Aside0.mk (blk_below (g := gb257) (o := .cells #[.slice A0_0 l0_0.length c0_0, .slice A0_1 l0_1.length c0_1] 62 (0, 0)) (bkUp BK257.out) hb); have n1_ := Aside0.mk (below_step (belPut) hb); have n2_ := Aside0.mk (hbox); have n3_ := Aside0.mk ((by rw [hg]; exact (below_size (belPut)) : w.heap.size ≤ gb258)); have n4_ := Aside0.mk ((by rw [hg]; exact (below_size (belPut)) : w.heap.size ≤ gb258)); have n5_ := Aside0.mk ((by rw [hg]; exact Nat.ne_of_lt (blk_lt (g := gb257) (o := .cells #[.slice A0_0 l0_0.length c0_0, .slice A0_1 l0_1.length c0_1] 62 (0, 0)) (bkUp BK257.out)) : gb257 ≠ gb258)); have n6_ := Aside0.mk ((by rw [hg]; exact Nat.ne_of_gt (blk_lt (g := gb257) (o := .cells #[.slice A0_0 l0_0.length c0_0, .slice A0_1 l0_1.length c0_1] 62 (0, 0)) (bkUp BK257.out)) : gb258 ≠ gb257)); clear BK257 HB; have BK257 := n0_; have HB := n1_; have BK258 := n2_; have GW258 := n3_; have GE258 := n4_; have NB257_258 := n5_; have NB258_257 := n6_; clear n0_ n1_ n2_ n3_ n4_ n5_ n6_; clear hb hbox hg))
 have n0_ := Aside0.mk (blk_drew BK257.out)
 have n1_ := Aside0.mk (blk_drew BK258.out)
 have n2_ := Aside0.mk (below_drew1 HB.out)
 clear BK257 BK258 HB
 have BK257 := n0_
 have BK258 := n1_
 have HB := n2_
 clear n0_ n1_ n2_
 have p259 : 0 ≤ (0 : Int) := (by omega)
 have q259 : 0 < (l1.length : Int) := ofDec
 obtain ⟨ad259, e259, hx259_0, hx259_1, hx259_2, hx259_3⟩ := at_T53 HR1.out 0 p259 q259
 have hw259_3 := hx259_3
 (try rw [show ((0 : Int)).toNat = 0 from rfl] at hw259_3)
 (try rw [show 0 * 4 = 0 from rfl] at hw259_3)
 (try rw [Addr.add_zero'] at hw259_3)
 have hw259_2 := hx259_2
 (try rw [show ((0 : Int)).toNat = 0 from rfl] at hw259_2)
 (try rw [show 0 * 4 = 0 from rfl] at hw259_2)
 (try rw [Addr.add_zero'] at hw259_2)
 have hw259_1 := hx259_1
 (try rw [show ((0 : Int)).toNat = 0 from rfl] at hw259_1)
 (try rw [show 0 * 4 = 0 from rfl] at hw259_1)
 (try rw [Addr.add_zero'] at hw259_1)
 have hw259_0 := hx259_0
 (try rw [show ((0 : Int)).toNat = 0 from rfl] at hw259_0)
 (try rw [show 0 * 4 = 0 from rfl] at hw259_0)
 (try rw [Addr.add_zero'] at hw259_0)
 cases e259
 have qi259 : (0 < l1.length) = True := eq_true (by omega)
 (try rw [show ((0 : Int)).toNat = 0 from rfl] at hx259_0)
 (try rw [show 0 * 4 = 0 from rfl] at hx259_0)
 (try rw [Addr.add_zero'] at hx259_0)
 (try rw [show ((0 : Int)).toNat = 0 from rfl] at hx259_1)
 (try rw [show 0 * 4 = 0 from rfl] at hx259_1)
 (try rw [Addr.add_zero'] at hx259_1)
 (try rw [show ((0 : Int)).toNat = 0 from rfl] at hx259_2)
 (try rw [show 0 * 4 = 0 from rfl] at hx259_2)
 (try rw [Addr.add_zero'] at hx259_2)
 (try rw [show ((0 : Int)).toNat = 0 from rfl] at hx259_3)
 (try rw [show 0 * 4 = 0 from rfl] at hx259_3)
 (try rw [Addr.add_zero'] at hx259_3)
 replace hx259_0 := cUp HB.out hx259_0
 replace hx259_1 := cUp HB.out hx259_1
 replace hx259_2 := cUp HB.out hx259_2
 replace hx259_3 := cUp HB.out hx259_3
 replace p259 := eq_true p259
 replace q259 := eq_true q259
 have p260 : 0 ≤ ((ji5) : Int) := ofDec
 have q260 : (ji5) < (l1.length : Int) := ofDec
 obtain ⟨ad260, e260, hx260_0, hx260_1, hx260_2, hx260_3⟩ := at_T53 HR1.out (ji5) p260 q260
 have hw260_3 := hx260_3
 have hw260_2 := hx260_2
 have hw260_1 := hx260_1
 have hw260_0 := hx260_0
 obtain rfl : ad259 = ad260 := (by injection e260)
 replace hx260_0 := cUp HB.out hx260_0
 replace hx260_1 := cUp HB.out hx260_1
 replace hx260_2 := cUp HB.out hx260_2
 replace hx260_3 := cUp HB.out hx260_3
 replace p260 := eq_true p260
 replace q260 := eq_true q260
 refine start_ (n := 13) (S := fun w' => w'.cell? ad259 = some (.int .i64 ((rd_T53 l1 0).f0)) ∧ w'.cell? ⟨ad259.block, ad259.off + 1, none⟩ = some (.int .i64 ((rd_T53 l1 0).f1)) ∧ w'.cell? ⟨ad259.block, ad259.off + 2, none⟩ = some (.int .i64 ((rd_T53 l1 0).f2)) ∧ w'.cell? ⟨ad259.block, ad259.off + 3, none⟩ = some (.int .i64 ((rd_T53 l1 0).f3)) ∧ w'.cell? (ad259.add (((ji5)).toNat * 4)) = some (.int .i64 ((rd_T53 l1 (ji5)).f0)) ∧ w'.cell? ⟨(ad259.add (((ji5)).toNat * 4)).block, (ad259.add (((ji5)).toNat * 4)).off + 1, none⟩ = some (.int .i64 ((rd_T53 l1 (ji5)).f1)) ∧ w'.cell? ⟨(ad259.add (((ji5)).toNat * 4)).block, (ad259.add (((ji5)).toNat * 4)).off + 2, none⟩ = some (.int .i64 ((rd_T53 l1 (ji5)).f2)) ∧ w'.cell? ⟨(ad259.add (((ji5)).toNat * 4)).block, (ad259.add (((ji5)).toNat * 4)).off + 3, none⟩ = some (.int .i64 ((rd_T53 l1 (ji5)).f3))) (ds := []) (Array.replicate 13 false) (by kernel_rfl) rfl rfl ⟨(cUp HB.out hw259_0 :), (cUp HB.out hw259_1 :), (cUp HB.out hw259_2 :), (cUp HB.out hw259_3 :), (cUp HB.out hw260_0 :), (cUp HB.out hw260_1 :), (cUp HB.out hw260_2 :), (cUp HB.out hw260_3 :)⟩ (fun hHeld => ?_); refine with_tabW hunks_builder_hunk.tab1 hunks_builder_hunk.bits1 (fun HT_ HW_ => ?_)
 generalize w11.drew = w12 at BK257 BK258 HB hx259_0 hx259_1 hx259_2 hx259_3 hx260_0 hx260_1 hx260_2 hx260_3 hHeld ⊢
 refine pureT 0 ?_
 refine pureT 1 ?_
 refine pureT 3 ?_
 refine pureT 4 ?_
 refine pureT 5 ?_
 refine pureT 6 ?_
 refine pureT 7 ?_
 refine takeT 2 hHeld ?_
 refine takeT 8 hHeld ?_
 refine join_ (σ := Nat × Nat) 2 #[true, true, true, true, true, true, true, true, true, true, true, false, false] (fun s_ => [(7, .pointer (some ⟨s_.1, 0, none⟩)), (8, .pointer (some ⟨s_.2, 0, none⟩))]) (fun s_ w' => (w'.cell? ad259 = some (.int .i64 ((rd_T53 l1 0).f0)) ∧ w'.cell? ⟨ad259.block, ad259.off + 1, none⟩ = some (.int .i64 ((rd_T53 l1 0).f1)) ∧ w'.cell? ⟨ad259.block, ad259.off + 2, none⟩ = some (.int .i64 ((rd_T53 l1 0).f2)) ∧ w'.cell? ⟨ad259.block, ad259.off + 3, none⟩ = some (.int .i64 ((rd_T53 l1 0).f3)) ∧ w'.cell? (ad259.add (((ji5)).toNat * 4)) = some (.int .i64 ((rd_T53 l1 (ji5)).f0)) ∧ w'.cell? ⟨(ad259.add (((ji5)).toNat * 4)).block, (ad259.add (((ji5)).toNat * 4)).off + 1, none⟩ = some (.int .i64 ((rd_T53 l1 (ji5)).f1)) ∧ w'.cell? ⟨(ad259.add (((ji5)).toNat * 4)).block, (ad259.add (((ji5)).toNat * 4)).off + 2, none⟩ = some (.int .i64 ((rd_T53 l1 (ji5)).f2)) ∧ w'.cell? ⟨(ad259.add (((ji5)).toNat * 4)).block, (ad259.add (((ji5)).toNat * 4)).off + 3, none⟩ = some (.int .i64 ((rd_T53 l1 (ji5)).f3))) ∧ (w'.heap[gb257]? = some (.cells #[.slice A0_0 l0_0.length c0_0, .slice A0_1 l0_1.length c0_1] 62 (0, 0))) ∧ (w'.heap[gb258]? = some (.cells #[.int .i64 0, .int .i64 0, .int .i64 0, .int .i64 0, .string (⟨#[]⟩ : ByteArray), .slice none 0 0] 41 (0, 0))) ∧ (w'.heap[s_.1]? = some (.cells #[.int .i64 0, .int .i64 0, .int .i64 0, .int .i64 0] 53 (0, 0))) ∧ (w'.heap[s_.2]? = some (.cells #[.int .i64 0, .int .i64 0, .int .i64 0, .int .i64 0] 53 (0, 0))) ∧ (w.heap.size ≤ s_.1) ∧ (w.heap.size ≤ s_.1) ∧ (gb257 ≠ s_.1) ∧ (s_.1 ≠ gb257) ∧ (gb258 ≠ s_.1) ∧ (s_.1 ≠ gb258) ∧ (s_.2 ≠ s_.1) ∧ (s_.1 ≠ s_.2) ∧ (w.heap.size ≤ s_.2) ∧ (w.heap.size ≤ s_.2) ∧ (gb257 ≠ s_.2) ∧ (s_.2 ≠ gb257) ∧ (gb258 ≠ s_.2) ∧ (s_.2 ≠ gb258) ∧ (Below w.heap.size w w')) ?_ ?_
 rotate_left
 ·intro hCont
  refine two_ (i := 9) (j := 10) (Ni := some 7) (Nj := some 8) #[true, true, true, true, true, true, true, true, true, true, false, false, false] #[true, true, true, true, true, true, true, true, true, false, true, false, false] rfl rfl rfl rfl (two_of HT_.out (by kernel_rfl)) (by decide) (by decide) (fun K hK => ?_) (fun K hK => ?_)
  ·skip
   refine box_step ?hg (N := 7) ?hd (cs := #[.int .i64 0, .int .i64 0, .int .i64 0, .int .i64 0]) (t := 53) ?hr ?_; (case hd => rfl); (case hg => rfl); (case hr => first | (go_simp; done) | (go_simp; rfl))
   intro gb261 hg w13 hbox hb
   have n0_ := Aside0.mk (blk_below (g := gb257) (o := .cells #[.slice A0_0 l0_0.length c0_0, .slice A0_1 l0_1.length c0_1] 62 (0, 0)) (bkUp BK257.out) hb)
   have n1_ := Aside0.mk (blk_below (g := gb258) (o := .cells #[.int .i64 0, .int .i64 0, .int .i64 0, .int .i64 0, .string (⟨#[]⟩ : ByteArray), .slice none 0 0] 41 (0, 0)) (bkUp BK258.out) hb)
   have n2_ := Aside0.mk (below_step (belPut) hb)
   have n3_ := Aside0.mk (hbox)
   have n4_ := Aside0.mk ((by rw [hg]; exact (below_size (belPut)) : w.heap.size ≤ gb261))
   have n5_ := Aside0.mk ((by rw [hg]; exact (below_size (belPut)) : w.heap.size ≤ gb261))
   have n6_ := Aside0.mk ((by rw [hg]; exact Nat.ne_of_lt (blk_lt (g := gb257) (o := .cells #[.slice A0_0 l0_0.length c0_0, .slice A0_1 l0_1.length c0_1] 62 (0, 0)) (bkUp BK257.out)) : gb257 ≠ gb261))
   have n7_ := Aside0.mk ((by rw [hg]; exact Nat.ne_of_gt (blk_lt (g := gb257) (o := .cells #[.slice A0_0 l0_0.length c0_0, .slice A0_1 l0_1.length c0_1] 62 (0, 0)) (bkUp BK257.out)) : gb261 ≠ gb257))
   have n8_ := Aside0.mk ((by rw [hg]; exact Nat.ne_of_lt (blk_lt (g := gb258) (o := .cells #[.int .i64 0, .int .i64 0, .int .i64 0, .int .i64 0, .string (⟨#[]⟩ : ByteArray), .slice none 0 0] 41 (0, 0)) (bkUp BK258.out)) : gb258 ≠ gb261))
   have n9_ := Aside0.mk ((by rw [hg]; exact Nat.ne_of_gt (blk_lt (g := gb258) (o := .cells #[.int .i64 0, .int .i64 0, .int .i64 0, .int .i64 0, .string (⟨#[]⟩ : ByteArray), .slice none 0 0] 41 (0, 0)) (bkUp BK258.out)) : gb261 ≠ gb258))
   clear BK257 BK258 HB
   have BK257 := n0_
   have BK258 := n1_
   have HB := n2_
   have BK261 := n3_
   have GW261 := n4_
   have GE261 := n5_
   have NB257_261 := n6_
   have NB261_257 := n7_
   have NB258_261 := n8_
   have NB261_258 := n9_
   clear n0_ n1_ n2_ n3_ n4_ n5_ n6_ n7_ n8_ n9_
   clear hb hbox hg
   refine hK.out _ _ ⟨(cUp HB.out hw259_0 :), (cUp HB.out hw259_1 :), (cUp HB.out hw259_2 :), (cUp HB.out hw259_3 :), (cUp HB.out hw260_0 :), (cUp HB.out hw260_1 :), (cUp HB.out hw260_2 :), (cUp HB.out hw260_3 :)⟩ (fun hHeld => ?_)
   clear hK K
   refine norm_ (a' := ?_) ?_ ?_
   rotate_left
   ·show Act.put _ (some 7) _ = _
    simp only [Act.put, List.setIfInBounds_toArray, List.set_cons_zero, List.set_cons_succ, i64_w, i32_w]
    rfl
   refine oneT (N := some 8) 10 (fun K hK => ?_)
   refine box_step ?hg (N := 8) ?hd (cs := #[.int .i64 0, .int .i64 0, .int .i64 0, .int .i64 0]) (t := 53) ?hr ?_; (case hd => rfl); (case hg => rfl); (case hr => first | (go_simp; done) | (go_simp; rfl))
   intro gb262 hg w14 hbox hb
   have n0_ := Aside0.mk (blk_below (g := gb257) (o := .cells #[.slice A0_0 l0_0.length c0_0, .slice A0_1 l0_1.length c0_1] 62 (0, 0)) (bkUp BK257.out) hb)
   have n1_ := Aside0.mk (blk_below (g := gb258) (o := .cells #[.int .i64 0, .int .i64 0, .int .i64 0, .int .i64 0, .string (⟨#[]⟩ : ByteArray), .slice none 0 0] 41 (0, 0)) (bkUp BK258.out) hb)
   have n2_ := Aside0.mk (blk_below (g := gb261) (o := .cells #[.int .i64 0, .int .i64 0, .int .i64 0, .int .i64 0] 53 (0, 0)) (bkUp BK261.out) hb)
   have n3_ := Aside0.mk (below_step (belPut) hb)
   have n4_ := Aside0.mk (hbox)
   have n5_ := Aside0.mk ((by rw [hg]; exact (below_size (belPut)) : w.heap.size ≤ gb262))
   have n6_ := Aside0.mk ((by rw [hg]; exact (below_size (belPut)) : w.heap.size ≤ gb262))
   have n7_ := Aside0.mk ((by rw [hg]; exact Nat.ne_of_lt (blk_lt (g := gb257) (o := .cells #[.slice A0_0 l0_0.length c0_0, .slice A0_1 l0_1.length c0_1] 62 (0, 0)) (bkUp BK257.out)) : gb257 ≠ gb262))
   have n8_ := Aside0.mk ((by rw [hg]; exact Nat.ne_of_gt (blk_lt (g := gb257) (o := .cells #[.slice A0_0 l0_0.length c0_0, .slice A0_1 l0_1.length c0_1] 62 (0, 0)) (bkUp BK257.out)) : gb262 ≠ gb257))
   have n9_ := Aside0.mk ((by rw [hg]; exact Nat.ne_of_lt (blk_lt (g := gb258) (o := .cells #[.int .i64 0, .int .i64 0, .int .i64 0, .int .i64 0, .string (⟨#[]⟩ : ByteArray), .slice none 0 0] 41 (0, 0)) (bkUp BK258.out)) : gb258 ≠ gb262))
   have n10_ := Aside0.mk ((by rw [hg]; exact Nat.ne_of_gt (blk_lt (g := gb258) (o := .cells #[.int .i64 0, .int .i64 0, .int .i64 0, .int .i64 0, .string (⟨#[]⟩ : ByteArray), .slice none 0 0] 41 (0, 0)) (bkUp BK258.out)) : gb262 ≠ gb258))
   have n11_ := Aside0.mk ((by rw [hg]; exact Nat.ne_of_lt (blk_lt (g := gb261) (o := .cells #[.int .i64 0, .int .i64 0, .int .i64 0, .int .i64 0] 53 (0, 0)) (bkUp BK261.out)) : gb261 ≠ gb262))
   have n12_ := Aside0.mk ((by rw [hg]; exact Nat.ne_of_gt (blk_lt (g := gb261) (o := .cells #[.int .i64 0, .int .i64 0, .int .i64 0, .int .i64 0] 53 (0, 0)) (bkUp BK261.out)) : gb262 ≠ gb261))
   clear BK257 BK258
   clear BK261 HB
   have BK257 := n0_
   have BK258 := n1_
   have BK261 := n2_
   have HB := n3_
   have BK262 := n4_
   have GW262 := n5_
   have GE262 := n6_
   have NB257_262 := n7_
   have NB262_257 := n8_
   have NB258_262 := n9_
   have NB262_258 := n10_
   have NB261_262 := n11_
   have NB262_261 := n12_
   clear n0_ n1_ n2_ n3_ n4_ n5_ n6_ n7_ n8_ n9_ n10_ n11_ n12_
   clear hb hbox hg
   refine hK.out _ _ ⟨(cUp HB.out hw259_0 :), (cUp HB.out hw259_1 :), (cUp HB.out hw259_2 :), (cUp HB.out hw259_3 :), (cUp HB.out hw260_0 :), (cUp HB.out hw260_1 :), (cUp HB.out hw260_2 :), (cUp HB.out hw260_3 :)⟩ (fun hHeld => ?_)
   clear hK K
   refine norm_ (a' := ?_) ?_ ?_
   rotate_left
   ·show Act.put _ (some 8) _ = _
    simp only [Act.put, List.setIfInBounds_toArray, List.set_cons_zero, List.set_cons_succ, i64_w, i32_w]
    rfl
   exact norm_ (by simp only [putAll, Act.put, List.setIfInBounds_toArray, List.set_cons_zero, List.set_cons_succ]) (hCont (gb261, gb262) _ ⟨hHeld, (bkUp BK257.out), (bkUp BK258.out), (bkUp BK261.out), (bkUp BK262.out), GW261.out, GE261.out, NB257_261.out, NB261_257.out, NB258_261.out, NB261_258.out, NB262_261.out, NB261_262.out, GW262.out, GE262.out, NB257_262.out, NB262_257.out, NB258_262.out, NB262_258.out, (belPut)⟩)
  skip
  refine box_step ?hg (N := 8) ?hd (cs := #[.int .i64 0, .int .i64 0, .int .i64 0, .int .i64 0]) (t := 53) ?hr ?_; (case hd => rfl); (case hg => rfl); (case hr => first | (go_simp; done) | (go_simp; rfl))
  intro gb262 hg w13 hbox hb
  have n0_ := Aside0.mk (blk_below (g := gb257) (o := .cells #[.slice A0_0 l0_0.length c0_0, .slice A0_1 l0_1.length c0_1] 62 (0, 0)) (bkUp BK257.out) hb)
  have n1_ := Aside0.mk (blk_below (g := gb258) (o := .cells #[.int .i64 0, .int .i64 0, .int .i64 0, .int .i64 0, .string (⟨#[]⟩ : ByteArray), .slice none 0 0] 41 (0, 0)) (bkUp BK258.out) hb)
  have n2_ := Aside0.mk (below_step (belPut) hb)
  have n3_ := Aside0.mk (hbox)
  have n4_ := Aside0.mk ((by rw [hg]; exact (below_size (belPut)) : w.heap.size ≤ gb262))
  have n5_ := Aside0.mk ((by rw [hg]; exact (below_size (belPut)) : w.heap.size ≤ gb262))
  have n6_ := Aside0.mk ((by rw [hg]; exact Nat.ne_of_lt (blk_lt (g := gb257) (o := .cells #[.slice A0_0 l0_0.length c0_0, .slice A0_1 l0_1.length c0_1] 62 (0, 0)) (bkUp BK257.out)) : gb257 ≠ gb262))
  have n7_ := Aside0.mk ((by rw [hg]; exact Nat.ne_of_gt (blk_lt (g := gb257) (o := .cells #[.slice A0_0 l0_0.length c0_0, .slice A0_1 l0_1.length c0_1] 62 (0, 0)) (bkUp BK257.out)) : gb262 ≠ gb257))
  have n8_ := Aside0.mk ((by rw [hg]; exact Nat.ne_of_lt (blk_lt (g := gb258) (o := .cells #[.int .i64 0, .int .i64 0, .int .i64 0, .int .i64 0, .string (⟨#[]⟩ : ByteArray), .slice none 0 0] 41 (0, 0)) (bkUp BK258.out)) : gb258 ≠ gb262))
  have n9_ := Aside0.mk ((by rw [hg]; exact Nat.ne_of_gt (blk_lt (g := gb258) (o := .cells #[.int .i64 0, .int .i64 0, .int .i64 0, .int .i64 0, .string (⟨#[]⟩ : ByteArray), .slice none 0 0] 41 (0, 0)) (bkUp BK258.out)) : gb262 ≠ gb258))
  clear BK257 BK258 HB
  have BK257 := n0_
  have BK258 := n1_
  have HB := n2_
  have BK262 := n3_
  have GW262 := n4_
  have GE262 := n5_
  have NB257_262 := n6_
  have NB262_257 := n7_
  have NB258_262 := n8_
  have NB262_258 := n9_
  clear n0_ n1_ n2_ n3_ n4_ n5_ n6_ n7_ n8_ n9_
  clear hb hbox hg
  refine hK.out _ _ ⟨(cUp HB.out hw259_0 :), (cUp HB.out hw259_1 :), (cUp HB.out hw259_2 :), (cUp HB.out hw259_3 :), (cUp HB.out hw260_0 :), (cUp HB.out hw260_1 :), (cUp HB.out hw260_2 :), (cUp HB.out hw260_3 :)⟩ (fun hHeld => ?_)
  clear hK K
  refine norm_ (a' := ?_) ?_ ?_
  rotate_left
  ·show Act.put _ (some 8) _ = _
   simp only [Act.put, List.setIfInBounds_toArray, List.set_cons_zero, List.set_cons_succ, i64_w, i32_w]
   rfl
  refine oneT (N := some 7) 9 (fun K hK => ?_)
  refine box_step ?hg (N := 7) ?hd (cs := #[.int .i64 0, .int .i64 0, .int .i64 0, .int .i64 0]) (t := 53) ?hr ?_; (case hd => rfl); (case hg => rfl); (case hr => first | (go_simp; done) | (go_simp; rfl))
  intro gb261 hg w14 hbox hb
  have n0_ := Aside0.mk (blk_below (g := gb257) (o := .cells #[.slice A0_0 l0_0.length c0_0, .slice A0_1 l0_1.length c0_1] 62 (0, 0)) (bkUp BK257.out) hb)
  have n1_ := Aside0.mk (blk_below (g := gb258) (o := .cells #[.int .i64 0, .int .i64 0, .int .i64 0, .int .i64 0, .string (⟨#[]⟩ : ByteArray), .slice none 0 0] 41 (0, 0)) (bkUp BK258.out) hb)
  have n2_ := Aside0.mk (blk_below (g := gb262) (o := .cells #[.int .i64 0, .int .i64 0, .int .i64 0, .int .i64 0] 53 (0, 0)) (bkUp BK262.out) hb)
  have n3_ := Aside0.mk (below_step (belPut) hb)
  have n4_ := Aside0.mk (hbox)
  have n5_ := Aside0.mk ((by rw [hg]; exact (below_size (belPut)) : w.heap.size ≤ gb261))
  have n6_ := Aside0.mk ((by rw [hg]; exact (below_size (belPut)) : w.heap.size ≤ gb261))
  have n7_ := Aside0.mk ((by rw [hg]; exact Nat.ne_of_lt (blk_lt (g := gb257) (o := .cells #[.slice A0_0 l0_0.length c0_0, .slice A0_1 l0_1.length c0_1] 62 (0, 0)) (bkUp BK257.out)) : gb257 ≠ gb261))
  have n8_ := Aside0.mk ((by rw [hg]; exact Nat.ne_of_gt (blk_lt (g := gb257) (o := .cells #[.slice A0_0 l0_0.length c0_0, .slice A0_1 l0_1.length c0_1] 62 (0, 0)) (bkUp BK257.out)) : gb261 ≠ gb257))
  have n9_ := Aside0.mk ((by rw [hg]; exact Nat.ne_of_lt (blk_lt (g := gb258) (o := .cells #[.int .i64 0, .int .i64 0, .int .i64 0, .int .i64 0, .string (⟨#[]⟩ : ByteArray), .slice none 0 0] 41 (0, 0)) (bkUp BK258.out)) : gb258 ≠ gb261))
  have n10_ := Aside0.mk ((by rw [hg]; exact Nat.ne_of_gt (blk_lt (g := gb258) (o := .cells #[.int .i64 0, .int .i64 0, .int .i64 0, .int .i64 0, .string (⟨#[]⟩ : ByteArray), .slice none 0 0] 41 (0, 0)) (bkUp BK258.out)) : gb261 ≠ gb258))
  have n11_ := Aside0.mk ((by rw [hg]; exact Nat.ne_of_lt (blk_lt (g := gb262) (o := .cells #[.int .i64 0, .int .i64 0, .int .i64 0, .int .i64 0] 53 (0, 0)) (bkUp BK262.out)) : gb262 ≠ gb261))
  have n12_ := Aside0.mk ((by rw [hg]; exact Nat.ne_of_gt (blk_lt (g := gb262) (o := .cells #[.int .i64 0, .int .i64 0, .int .i64 0, .int .i64 0] 53 (0, 0)) (bkUp BK262.out)) : gb261 ≠ gb262))
  clear BK257 BK258
  clear BK262 HB
  have BK257 := n0_
  have BK258 := n1_
  have BK262 := n2_
  have HB := n3_
  have BK261 := n4_
  have GW261 := n5_
  have GE261 := n6_
  have NB257_261 := n7_
  have NB261_257 := n8_
  have NB258_261 := n9_
  have NB261_258 := n10_
  have NB262_261 := n11_
  have NB261_262 := n12_
  clear n0_ n1_ n2_ n3_ n4_ n5_ n6_ n7_ n8_ n9_ n10_ n11_ n12_
  clear hb hbox hg
  refine hK.out _ _ ⟨(cUp HB.out hw259_0 :), (cUp HB.out hw259_1 :), (cUp HB.out hw259_2 :), (cUp HB.out hw259_3 :), (cUp HB.out hw260_0 :), (cUp HB.out hw260_1 :), (cUp HB.out hw260_2 :), (cUp HB.out hw260_3 :)⟩ (fun hHeld => ?_)
  clear hK K
  refine norm_ (a' := ?_) ?_ ?_
  rotate_left
  ·show Act.put _ (some 7) _ = _
   simp only [Act.put, List.setIfInBounds_toArray, List.set_cons_zero, List.set_cons_succ, i64_w, i32_w]
   rfl
  exact norm_ (by simp only [putAll, Act.put, List.setIfInBounds_toArray, List.set_cons_zero, List.set_cons_succ]) (hCont (gb261, gb262) _ ⟨hHeld, (bkUp BK257.out), (bkUp BK258.out), (bkUp BK261.out), (bkUp BK262.out), GW261.out, GE261.out, NB257_261.out, NB261_257.out, NB258_261.out, NB261_258.out, NB262_261.out, NB261_262.out, GW262.out, GE262.out, NB257_262.out, NB262_257.out, NB258_262.out, NB262_258.out, (belPut)⟩)
 rintro ⟨gb261, gb262⟩ w15 ⟨hS_, h0_, h1_, h2_, h3_, h4_, h5_, h6_, h7_, h8_, h9_, h10_, h11_, h12_, h13_, h14_, h15_, h16_, h17_, h18_⟩
 have n0_ : Aside0 (w15.heap[gb257]? = some (.cells #[.slice A0_0 l0_0.length c0_0, .slice A0_1 l0_1.length c0_1] 62 (0, 0))) := ⟨h0_⟩
 have n1_ : Aside0 (w15.heap[gb258]? = some (.cells #[.int .i64 0, .int .i64 0, .int .i64 0, .int .i64 0, .string (⟨#[]⟩ : ByteArray), .slice none 0 0] 41 (0, 0))) := ⟨h1_⟩
 have n2_ : Aside0 (w15.heap[gb261]? = some (.cells #[.int .i64 0, .int .i64 0, .int .i64 0, .int .i64 0] 53 (0, 0))) := ⟨h2_⟩
 have n3_ : Aside0 (w15.heap[gb262]? = some (.cells #[.int .i64 0, .int .i64 0, .int .i64 0, .int .i64 0] 53 (0, 0))) := ⟨h3_⟩
 have n4_ : Aside0 (w.heap.size ≤ gb261) := ⟨h4_⟩
 have n5_ : Aside0 (w.heap.size ≤ gb261) := ⟨h5_⟩
 have n6_ : Aside0 (gb257 ≠ gb261) := ⟨h6_⟩
 have n7_ : Aside0 (gb261 ≠ gb257) := ⟨h7_⟩
 have n8_ : Aside0 (gb258 ≠ gb261) := ⟨h8_⟩
 have n9_ : Aside0 (gb261 ≠ gb258) := ⟨h9_⟩
 have n10_ : Aside0 (gb262 ≠ gb261) := ⟨h10_⟩
 have n11_ : Aside0 (gb261 ≠ gb262) := ⟨h11_⟩
 have n12_ : Aside0 (w.heap.size ≤ gb262) := ⟨h12_⟩
 have n13_ : Aside0 (w.heap.size ≤ gb262) := ⟨h13_⟩
 have n14_ : Aside0 (gb257 ≠ gb262) := ⟨h14_⟩
 have n15_ : Aside0 (gb262 ≠ gb257) := ⟨h15_⟩
 have n16_ : Aside0 (gb258 ≠ gb262) := ⟨h16_⟩
 have n17_ : Aside0 (gb262 ≠ gb258) := ⟨h17_⟩
 have n18_ : Aside0 (Below w.heap.size w w15) := ⟨h18_⟩
 clear BK257 BK258 HB
 clear h0_ h1_ h2_ h3_ h4_ h5_ h6_ h7_ h8_ h9_ h10_ h11_ h12_ h13_ h14_ h15_ h16_ h17_ h18_
 have BK257 := n0_
 have BK258 := n1_
 have BK261 := n2_
 have BK262 := n3_
 have GW261 := n4_
 have GE261 := n5_
 have NB257_261 := n6_
 have NB261_257 := n7_
 have NB258_261 := n8_
 have NB261_258 := n9_
 have NB262_261 := n10_
 have NB261_262 := n11_
 have GW262 := n12_
 have GE262 := n13_
 have NB257_262 := n14_
 have NB262_257 := n15_
 have NB258_262 := n16_
 have NB262_258 := n17_
 have HB := n18_
 clear n0_ n1_ n2_ n3_ n4_ n5_ n6_ n7_ n8_ n9_ n10_ n11_ n12_ n13_ n14_ n15_ n16_ n17_ n18_
 have hHeld : w15.cell? ad259 = some (.int .i64 ((rd_T53 l1 0).f0)) ∧ w15.cell? ⟨ad259.block, ad259.off + 1, none⟩ = some (.int .i64 ((rd_T53 l1 0).f1)) ∧ w15.cell? ⟨ad259.block, ad259.off + 2, none⟩ = some (.int .i64 ((rd_T53 l1 0).f2)) ∧ w15.cell? ⟨ad259.block, ad259.off + 3, none⟩ = some (.int .i64 ((rd_T53 l1 0).f3)) ∧ w15.cell? (ad259.add (((ji5)).toNat * 4)) = some (.int .i64 ((rd_T53 l1 (ji5)).f0)) ∧ w15.cell? ⟨(ad259.add (((ji5)).toNat * 4)).block, (ad259.add (((ji5)).toNat * 4)).off + 1, none⟩ = some (.int .i64 ((rd_T53 l1 (ji5)).f1)) ∧ w15.cell? ⟨(ad259.add (((ji5)).toNat * 4)).block, (ad259.add (((ji5)).toNat * 4)).off + 2, none⟩ = some (.int .i64 ((rd_T53 l1 (ji5)).f2)) ∧ w15.cell? ⟨(ad259.add (((ji5)).toNat * 4)).block, (ad259.add (((ji5)).toNat * 4)).off + 3, none⟩ = some (.int .i64 ((rd_T53 l1 (ji5)).f3)) := hS_
 refine norm_ (a' := ?_) ?_ ?_
 rotate_left
 ·simp only [putAll, Act.put, List.setIfInBounds_toArray, List.set_cons_zero, List.set_cons_succ]
  rfl
 refine oneT (N := none) 11 (fun K hK => ?_)
 have hs16 : w15.cell? ⟨gb261, 0, none⟩ = some (.int .i64 0) := (blk_cell BK261.out 0).trans rfl
 have hfs16 := blk_frozen BK261.out 0
 have hns16_0 := NB257_261.out
 have hns16_1 := NB258_261.out
 have hns16_3 := NB262_261.out
 have hms16_0 := NB261_257.out
 have hms16_1 := NB261_258.out
 have hms16_3 := NB261_262.out
 have hs17 : w15.cell? ⟨gb261, 1, none⟩ = some (.int .i64 0) := (blk_cell BK261.out 1).trans rfl
 have hfs17 := blk_frozen BK261.out 1
 have hns17_0 := NB257_261.out
 have hns17_1 := NB258_261.out
 have hns17_3 := NB262_261.out
 have hms17_0 := NB261_257.out
 have hms17_1 := NB261_258.out
 have hms17_3 := NB261_262.out
 have hs18 : w15.cell? ⟨gb261, 2, none⟩ = some (.int .i64 0) := (blk_cell BK261.out 2).trans rfl
 have hfs18 := blk_frozen BK261.out 2
 have hns18_0 := NB257_261.out
 have hns18_1 := NB258_261.out
 have hns18_3 := NB262_261.out
 have hms18_0 := NB261_257.out
 have hms18_1 := NB261_258.out
 have hms18_3 := NB261_262.out
 have hs19 : w15.cell? ⟨gb261, 3, none⟩ = some (.int .i64 0) := (blk_cell BK261.out 3).trans rfl
 have hfs19 := blk_frozen BK261.out 3
 have hns19_0 := NB257_261.out
 have hns19_1 := NB258_261.out
 have hns19_3 := NB262_261.out
 have hms19_0 := NB261_257.out
 have hms19_1 := NB261_258.out
 have hms19_3 := NB261_262.out
 refine skip_ (w1 := ?_) (by rfl) rfl ?_ ?_
 rotate_left
 ·go_simp
  rfl
 refine hK.out _ _ ⟨((cell_far (p := ⟨gb261, _, none⟩) (by exact neBlk hw259_0 GW261.out) _).trans (((cell_far (p := ⟨gb261, _, none⟩) (by exact neBlk hw259_0 GW261.out) _).trans (((cell_far (p := ⟨gb261, _, none⟩) (by exact neBlk hw259_0 GW261.out) _).trans (((cell_far (p := ⟨gb261, _, none⟩) (by exact neBlk hw259_0 GW261.out) _).trans (hHeld.1)))))))), ((cell_far (p := ⟨gb261, _, none⟩) (by exact neBlk hw259_1 GW261.out) _).trans (((cell_far (p := ⟨gb261, _, none⟩) (by exact neBlk hw259_1 GW261.out) _).trans (((cell_far (p := ⟨gb261, _, none⟩) (by exact neBlk hw259_1 GW261.out) _).trans (((cell_far (p := ⟨gb261, _, none⟩) (by exact neBlk hw259_1 GW261.out) _).trans (hHeld.2.1)))))))), ((cell_far (p := ⟨gb261, _, none⟩) (by exact neBlk hw259_2 GW261.out) _).trans (((cell_far (p := ⟨gb261, _, none⟩) (by exact neBlk hw259_2 GW261.out) _).trans (((cell_far (p := ⟨gb261, _, none⟩) (by exact neBlk hw259_2 GW261.out) _).trans (((cell_far (p := ⟨gb261, _, none⟩) (by exact neBlk hw259_2 GW261.out) _).trans (hHeld.2.2.1)))))))), ((cell_far (p := ⟨gb261, _, none⟩) (by exact neBlk hw259_3 GW261.out) _).trans (((cell_far (p := ⟨gb261, _, none⟩) (by exact neBlk hw259_3 GW261.out) _).trans (((cell_far (p := ⟨gb261, _, none⟩) (by exact neBlk hw259_3 GW261.out) _).trans (((cell_far (p := ⟨gb261, _, none⟩) (by exact neBlk hw259_3 GW261.out) _).trans (hHeld.2.2.2.1)))))))), ((cell_far (p := ⟨gb261, _, none⟩) (by exact neBlk hw260_0 GW261.out) _).trans (((cell_far (p := ⟨gb261, _, none⟩) (by exact neBlk hw260_0 GW261.out) _).trans (((cell_far (p := ⟨gb261, _, none⟩) (by exact neBlk hw260_0 GW261.out) _).trans (((cell_far (p := ⟨gb261, _, none⟩) (by exact neBlk hw260_0 GW261.out) _).trans (hHeld.2.2.2.2.1)))))))), ((cell_far (p := ⟨gb261, _, none⟩) (by exact neBlk hw260_1 GW261.out) _).trans (((cell_far (p := ⟨gb261, _, none⟩) (by exact neBlk hw260_1 GW261.out) _).trans (((cell_far (p := ⟨gb261, _, none⟩) (by exact neBlk hw260_1 GW261.out) _).trans (((cell_far (p := ⟨gb261, _, none⟩) (by exact neBlk hw260_1 GW261.out) _).trans (hHeld.2.2.2.2.2.1)))))))), ((cell_far (p := ⟨gb261, _, none⟩) (by exact neBlk hw260_2 GW261.out) _).trans (((cell_far (p := ⟨gb261, _, none⟩) (by exact neBlk hw260_2 GW261.out) _).trans (((cell_far (p := ⟨gb261, _, none⟩) (by exact neBlk hw260_2 GW261.out) _).trans (((cell_far (p := ⟨gb261, _, none⟩) (by exact neBlk hw260_2 GW261.out) _).trans (hHeld.2.2.2.2.2.2.1)))))))), ((cell_far (p := ⟨gb261, _, none⟩) (by exact neBlk hw260_3 GW261.out) _).trans (((cell_far (p := ⟨gb261, _, none⟩) (by exact neBlk hw260_3 GW261.out) _).trans (((cell_far (p := ⟨gb261, _, none⟩) (by exact neBlk hw260_3 GW261.out) _).trans (((cell_far (p := ⟨gb261, _, none⟩) (by exact neBlk hw260_3 GW261.out) _).trans (hHeld.2.2.2.2.2.2.2))))))))⟩ (fun hHeld => ?_)
 clear hK K
 refine oneT (N := none) 12 (fun K hK => ?_)
 have hs20 : w15.cell? ⟨gb262, 0, none⟩ = some (.int .i64 0) := (blk_cell BK262.out 0).trans rfl
 have hfs20 := blk_frozen BK262.out 0
 have hns20_0 := NB257_262.out
 have hns20_1 := NB258_262.out
 have hns20_2 := NB261_262.out
 have hms20_0 := NB262_257.out
 have hms20_1 := NB262_258.out
 have hms20_2 := NB262_261.out
 have hs21 : w15.cell? ⟨gb262, 1, none⟩ = some (.int .i64 0) := (blk_cell BK262.out 1).trans rfl
 have hfs21 := blk_frozen BK262.out 1
 have hns21_0 := NB257_262.out
 have hns21_1 := NB258_262.out
 have hns21_2 := NB261_262.out
 have hms21_0 := NB262_257.out
 have hms21_1 := NB262_258.out
 have hms21_2 := NB262_261.out
 have hs22 : w15.cell? ⟨gb262, 2, none⟩ = some (.int .i64 0) := (blk_cell BK262.out 2).trans rfl
 have hfs22 := blk_frozen BK262.out 2
 have hns22_0 := NB257_262.out
 have hns22_1 := NB258_262.out
 have hns22_2 := NB261_262.out
 have hms22_0 := NB262_257.out
 have hms22_1 := NB262_258.out
 have hms22_2 := NB262_261.out
 have hs23 : w15.cell? ⟨gb262, 3, none⟩ = some (.int .i64 0) := (blk_cell BK262.out 3).trans rfl
 have hfs23 := blk_frozen BK262.out 3
 have hns23_0 := NB257_262.out
 have hns23_1 := NB258_262.out
 have hns23_2 := NB261_262.out
 have hms23_0 := NB262_257.out
 have hms23_1 := NB262_258.out
 have hms23_2 := NB262_261.out
 refine skip_ (w1 := ?_) (by rfl) rfl ?_ ?_
 rotate_left
 ·go_simp
  rfl
 refine hK.out _ _ ⟨((cell_far (p := ⟨gb262, _, none⟩) (by exact neBlk hw259_0 GW262.out) _).trans (((cell_far (p := ⟨gb262, _, none⟩) (by exact neBlk hw259_0 GW262.out) _).trans (((cell_far (p := ⟨gb262, _, none⟩) (by exact neBlk hw259_0 GW262.out) _).trans (((cell_far (p := ⟨gb262, _, none⟩) (by exact neBlk hw259_0 GW262.out) _).trans (hHeld.1)))))))), ((cell_far (p := ⟨gb262, _, none⟩) (by exact neBlk hw259_1 GW262.out) _).trans (((cell_far (p := ⟨gb262, _, none⟩) (by exact neBlk hw259_1 GW262.out) _).trans (((cell_far (p := ⟨gb262, _, none⟩) (by exact neBlk hw259_1 GW262.out) _).trans (((cell_far (p := ⟨gb262, _, none⟩) (by exact neBlk hw259_1 GW262.out) _).trans (hHeld.2.1)))))))), ((cell_far (p := ⟨gb262, _, none⟩) (by exact neBlk hw259_2 GW262.out) _).trans (((cell_far (p := ⟨gb262, _, none⟩) (by exact neBlk hw259_2 GW262.out) _).trans (((cell_far (p := ⟨gb262, _, none⟩) (by exact neBlk hw259_2 GW262.out) _).trans (((cell_far (p := ⟨gb262, _, none⟩) (by exact neBlk hw259_2 GW262.out) _).trans (hHeld.2.2.1)))))))), ((cell_far (p := ⟨gb262, _, none⟩) (by exact neBlk hw259_3 GW262.out) _).trans (((cell_far (p := ⟨gb262, _, none⟩) (by exact neBlk hw259_3 GW262.out) _).trans (((cell_far (p := ⟨gb262, _, none⟩) (by exact neBlk hw259_3 GW262.out) _).trans (((cell_far (p := ⟨gb262, _, none⟩) (by exact neBlk hw259_3 GW262.out) _).trans (hHeld.2.2.2.1)))))))), ((cell_far (p := ⟨gb262, _, none⟩) (by exact neBlk hw260_0 GW262.out) _).trans (((cell_far (p := ⟨gb262, _, none⟩) (by exact neBlk hw260_0 GW262.out) _).trans (((cell_far (p := ⟨gb262, _, none⟩) (by exact neBlk hw260_0 GW262.out) _).trans (((cell_far (p := ⟨gb262, _, none⟩) (by exact neBlk hw260_0 GW262.out) _).trans (hHeld.2.2.2.2.1)))))))), ((cell_far (p := ⟨gb262, _, none⟩) (by exact neBlk hw260_1 GW262.out) _).trans (((cell_far (p := ⟨gb262, _, none⟩) (by exact neBlk hw260_1 GW262.out) _).trans (((cell_far (p := ⟨gb262, _, none⟩) (by exact neBlk hw260_1 GW262.out) _).trans (((cell_far (p := ⟨gb262, _, none⟩) (by exact neBlk hw260_1 GW262.out) _).trans (hHeld.2.2.2.2.2.1)))))))), ((cell_far (p := ⟨gb262, _, none⟩) (by exact neBlk hw260_2 GW262.out) _).trans (((cell_far (p := ⟨gb262, _, none⟩) (by exact neBlk hw260_2 GW262.out) _).trans (((cell_far (p := ⟨gb262, _, none⟩) (by exact neBlk hw260_2 GW262.out) _).trans (((cell_far (p := ⟨gb262, _, none⟩) (by exact neBlk hw260_2 GW262.out) _).trans (hHeld.2.2.2.2.2.2.1)))))))), ((cell_far (p := ⟨gb262, _, none⟩) (by exact neBlk hw260_3 GW262.out) _).trans (((cell_far (p := ⟨gb262, _, none⟩) (by exact neBlk hw260_3 GW262.out) _).trans (((cell_far (p := ⟨gb262, _, none⟩) (by exact neBlk hw260_3 GW262.out) _).trans (((cell_far (p := ⟨gb262, _, none⟩) (by exact neBlk hw260_3 GW262.out) _).trans (hHeld.2.2.2.2.2.2.2))))))))⟩ (fun hHeld => ?_)
 clear hK K
 refine done_ (done_of HT_.out (by kernel_rfl)) ?_
 have hnb24 := NB261_257.out
 have hnc24 := NB257_261.out
 have hnb25 := NB261_258.out
 have hnc25 := NB258_261.out
 have hnb26 := NB261_262.out
 have hnc26 := NB262_261.out
 have hcz27_0 := bkc (v := .int .i64 0) BK261.out 0 rfl
 have hcz27_1 := bkc (v := .int .i64 0) BK261.out 1 rfl
 have hcz27_2 := bkc (v := .int .i64 0) BK261.out 2 rfl
 have hcz27_3 := bkc (v := .int .i64 0) BK261.out 3 rfl
 have hfz27_0 := blk_frozen BK261.out 0
 have hfz27_1 := blk_frozen BK261.out 1
 have hfz27_2 := blk_frozen BK261.out 2
 have hfz27_3 := blk_frozen BK261.out 3
 have hnb28 := NB257_258.out
 have hnc28 := NB258_257.out
 have hnb29 := NB257_262.out
 have hnc29 := NB262_257.out
 have hcz30_0 := bkc (v := .slice A0_0 l0_0.length c0_0) BK257.out 0 rfl
 have hcz30_1 := bkc (v := .slice A0_1 l0_1.length c0_1) BK257.out 1 rfl
 have hfz30_0 := blk_frozen BK257.out 0
 have hfz30_1 := blk_frozen BK257.out 1
 have hnb31 := NB262_258.out
 have hnc31 := NB258_262.out
 have hcz32_0 := bkc (v := .int .i64 0) BK262.out 0 rfl
 have hcz32_1 := bkc (v := .int .i64 0) BK262.out 1 rfl
 have hcz32_2 := bkc (v := .int .i64 0) BK262.out 2 rfl
 have hcz32_3 := bkc (v := .int .i64 0) BK262.out 3 rfl
 have hfz32_0 := blk_frozen BK262.out 0
 have hfz32_1 := blk_frozen BK262.out 1
 have hfz32_2 := blk_frozen BK262.out 2
 have hfz32_3 := blk_frozen BK262.out 3
 go_upto_if 42 with (fail)
 go_cut [10] (fun v10 wc => ∃ (kq : Nat) (x10_8 : Int), v10 = .int .i64 x10_8 ∧ Aside0 (hunks_builder_hunk.j0 kq l1 ji8 x10_8 l0_0 l0_1 ((rd_T53 l1 0).f0) ((rd_T53 l1 0).f1) ((rd_T53 l1 0).f2) ((rd_T53 l1 0).f3) = some (r1, r2, r3, r4, r5, r6)) ∧ Aside0 (kq ≤ k) ∧ Aside0 (wc.heap[gb257]? = some (.cells #[(.slice A0_0 l0_0.length c0_0), (.slice A0_1 l0_1.length c0_1)] 62 (0, 0))) ∧ Aside0 (wc.heap[gb258]? = some (.cells #[.int .i64 0, .int .i64 0, .int .i64 0, .int .i64 0, .string (⟨#[]⟩ : ByteArray), (.slice none 0 0)] 41 (0, 0))) ∧ Aside0 (wc.heap[gb261]? = some (.cells #[.int .i64 ((rd_T53 l1 0).f0), .int .i64 ((rd_T53 l1 0).f1), .int .i64 ((rd_T53 l1 0).f2), .int .i64 ((rd_T53 l1 0).f3)] 53 (0, 0))) ∧ Aside0 (wc.heap[gb262]? = some (.cells #[.int .i64 ((rd_T53 l1 (ji5)).f0), .int .i64 ((rd_T53 l1 (ji5)).f1), .int .i64 ((rd_T53 l1 (ji5)).f2), .int .i64 ((rd_T53 l1 (ji5)).f3)] 53 (0, 0))) ∧ Aside0 (Below w.heap.size w wc))
 case first =>
  have H := HC9.out
  clear HC9
  by_cases c33 : a2 < (wrap64 ((l0_0.length : Int) - (wrap64 (((rd_T53 l1 (ji5)).f0) + ((rd_T53 l1 (ji5)).f1)))))
  rotate_left
  ·rw [if_neg c33] at H
   have c33b0 := decide_eq_false c33
   clear c33
   (first | rw [c33b0] | (simp only [i64_w, i32_w]; rw [c33b0]) | skip)
   have H' := Aside0.mk H
   clear H
   go_wp2
   go_meet
   case rel => exact ⟨_, ((l0_0.length : Int)), eqNow, H', ⟨by first | omega | exact Nat.le_refl _⟩, ⟨by refine bkUp ?_; refine blk_far ?_ NB257_262.out _; refine bkUp ?_; refine blk_far ?_ NB257_262.out _; refine bkUp ?_; refine blk_far ?_ NB257_262.out _; refine bkUp ?_; refine blk_far ?_ NB257_262.out _; refine bkUp ?_; refine blk_far ?_ NB257_261.out _; refine bkUp ?_; refine blk_far ?_ NB257_261.out _; refine bkUp ?_; refine blk_far ?_ NB257_261.out _; refine bkUp ?_; refine blk_far ?_ NB257_261.out _; exact bkUp BK257.out⟩, ⟨by refine bkUp ?_; refine blk_far ?_ NB258_262.out _; refine bkUp ?_; refine blk_far ?_ NB258_262.out _; refine bkUp ?_; refine blk_far ?_ NB258_262.out _; refine bkUp ?_; refine blk_far ?_ NB258_262.out _; refine bkUp ?_; refine blk_far ?_ NB258_261.out _; refine bkUp ?_; refine blk_far ?_ NB258_261.out _; refine bkUp ?_; refine blk_far ?_ NB258_261.out _; refine bkUp ?_; refine blk_far ?_ NB258_261.out _; exact bkUp BK258.out⟩, ⟨by refine bkUp ?_; refine blk_far ?_ NB261_262.out _; refine bkUp ?_; refine blk_far ?_ NB261_262.out _; refine bkUp ?_; refine blk_far ?_ NB261_262.out _; refine bkUp ?_; refine blk_far ?_ NB261_262.out _; refine bkUp ?_; refine blk_put (cs := #[.int .i64 ((rd_T53 l1 0).f0), .int .i64 ((rd_T53 l1 0).f1), .int .i64 ((rd_T53 l1 0).f2), .int .i64 0]) ?_ 3 _ rfl; refine bkUp ?_; refine blk_put (cs := #[.int .i64 ((rd_T53 l1 0).f0), .int .i64 ((rd_T53 l1 0).f1), .int .i64 0, .int .i64 0]) ?_ 2 _ rfl; refine bkUp ?_; refine blk_put (cs := #[.int .i64 ((rd_T53 l1 0).f0), .int .i64 0, .int .i64 0, .int .i64 0]) ?_ 1 _ rfl; refine bkUp ?_; refine blk_put (cs := #[.int .i64 0, .int .i64 0, .int .i64 0, .int .i64 0]) ?_ 0 _ rfl; exact bkUp BK261.out⟩, ⟨by refine bkUp ?_; refine blk_put (cs := #[.int .i64 ((rd_T53 l1 (ji5)).f0), .int .i64 ((rd_T53 l1 (ji5)).f1), .int .i64 ((rd_T53 l1 (ji5)).f2), .int .i64 0]) ?_ 3 _ rfl; refine bkUp ?_; refine blk_put (cs := #[.int .i64 ((rd_T53 l1 (ji5)).f0), .int .i64 ((rd_T53 l1 (ji5)).f1), .int .i64 0, .int .i64 0]) ?_ 2 _ rfl; refine bkUp ?_; refine blk_put (cs := #[.int .i64 ((rd_T53 l1 (ji5)).f0), .int .i64 0, .int .i64 0, .int .i64 0]) ?_ 1 _ rfl; refine bkUp ?_; refine blk_put (cs := #[.int .i64 0, .int .i64 0, .int .i64 0, .int .i64 0]) ?_ 0 _ rfl; refine bkUp ?_; refine blk_far ?_ NB262_261.out _; refine bkUp ?_; refine blk_far ?_ NB262_261.out _; refine bkUp ?_; refine blk_far ?_ NB262_261.out _; refine bkUp ?_; refine blk_far ?_ NB262_261.out _; exact bkUp BK262.out⟩, ⟨belPut⟩⟩
  rw [if_pos c33] at H
  have c33b0 := decide_eq_true c33
  clear c33
  (first | rw [c33b0] | (simp only [i64_w, i32_w]; rw [c33b0]) | skip)
  have H' := Aside0.mk H
  clear H
  go_wp2
  go_meet
  case rel => exact ⟨_, (wrap64 ((wrap64 (((rd_T53 l1 (ji5)).f0) + ((rd_T53 l1 (ji5)).f1))) + a2)), (by first | rfl | (simp; done) | (simp only [← hji5] <;> (first | rfl | simp)) | (simp [*]; done) | (simp [*] <;> rfl)), H', ⟨by first | omega | exact Nat.le_refl _⟩, ⟨by refine bkUp ?_; refine blk_far ?_ NB257_262.out _; refine bkUp ?_; refine blk_far ?_ NB257_262.out _; refine bkUp ?_; refine blk_far ?_ NB257_262.out _; refine bkUp ?_; refine blk_far ?_ NB257_262.out _; refine bkUp ?_; refine blk_far ?_ NB257_261.out _; refine bkUp ?_; refine blk_far ?_ NB257_261.out _; refine bkUp ?_; refine blk_far ?_ NB257_261.out _; refine bkUp ?_; refine blk_far ?_ NB257_261.out _; exact bkUp BK257.out⟩, ⟨by refine bkUp ?_; refine blk_far ?_ NB258_262.out _; refine bkUp ?_; refine blk_far ?_ NB258_262.out _; refine bkUp ?_; refine blk_far ?_ NB258_262.out _; refine bkUp ?_; refine blk_far ?_ NB258_262.out _; refine bkUp ?_; refine blk_far ?_ NB258_261.out _; refine bkUp ?_; refine blk_far ?_ NB258_261.out _; refine bkUp ?_; refine blk_far ?_ NB258_261.out _; refine bkUp ?_; refine blk_far ?_ NB258_261.out _; exact bkUp BK258.out⟩, ⟨by refine bkUp ?_; refine blk_far ?_ NB261_262.out _; refine bkUp ?_; refine blk_far ?_ NB261_262.out _; refine bkUp ?_; refine blk_far ?_ NB261_262.out _; refine bkUp ?_; refine blk_far ?_ NB261_262.out _; refine bkUp ?_; refine blk_put (cs := #[.int .i64 ((rd_T53 l1 0).f0), .int .i64 ((rd_T53 l1 0).f1), .int .i64 ((rd_T53 l1 0).f2), .int .i64 0]) ?_ 3 _ rfl; refine bkUp ?_; refine blk_put (cs := #[.int .i64 ((rd_T53 l1 0).f0), .int .i64 ((rd_T53 l1 0).f1), .int .i64 0, .int .i64 0]) ?_ 2 _ rfl; refine bkUp ?_; refine blk_put (cs := #[.int .i64 ((rd_T53 l1 0).f0), .int .i64 0, .int .i64 0, .int .i64 0]) ?_ 1 _ rfl; refine bkUp ?_; refine blk_put (cs := #[.int .i64 0, .int .i64 0, .int .i64 0, .int .i64 0]) ?_ 0 _ rfl; exact bkUp BK261.out⟩, ⟨by refine bkUp ?_; refine blk_put (cs := #[.int .i64 ((rd_T53 l1 (ji5)).f0), .int .i64 ((rd_T53 l1 (ji5)).f1), .int .i64 ((rd_T53 l1 (ji5)).f2), .int .i64 0]) ?_ 3 _ rfl; refine bkUp ?_; refine blk_put (cs := #[.int .i64 ((rd_T53 l1 (ji5)).f0), .int .i64 ((rd_T53 l1 (ji5)).f1), .int .i64 0, .int .i64 0]) ?_ 2 _ rfl; refine bkUp ?_; refine blk_put (cs := #[.int .i64 ((rd_T53 l1 (ji5)).f0), .int .i64 0, .int .i64 0, .int .i64 0]) ?_ 1 _ rfl; refine bkUp ?_; refine blk_put (cs := #[.int .i64 0, .int .i64 0, .int .i64 0, .int .i64 0]) ?_ 0 _ rfl; refine bkUp ?_; refine blk_far ?_ NB262_261.out _; refine bkUp ?_; refine blk_far ?_ NB262_261.out _; refine bkUp ?_; refine blk_far ?_ NB262_261.out _; refine bkUp ?_; refine blk_far ?_ NB262_261.out _; exact bkUp BK262.out⟩, ⟨belPut⟩⟩
 case rest =>
  clear HC9
  try clear c1
  try clear c2
  try clear p2
  try clear q2
  try clear hx2
  try clear qi2
  try clear c3
  try clear c4
  try clear c4b0
  try clear c4b1
  try clear c5
  try clear c6
  try clear c6b0
  try clear p6
  try clear c7
  try clear c7b0
  try clear c24
  try clear c25
  try clear p25
  try clear q25
  try clear hx25
  try clear qi25
  try clear c26
  try clear p26
  try clear q26
  try clear hx26
  try clear c28
  try clear c29
  try clear c31
  try clear c33
  try clear c33b0
  try clear hcz27_0 hcz27_1 hcz27_2 hcz27_3
  try clear hcz30_0 hcz30_1
  try clear hcz32_0 hcz32_1 hcz32_2 hcz32_3
  try clear hfz27_0 hfz27_1 hfz27_2 hfz27_3
  try clear hfz30_0 hfz30_1
  try clear hfz32_0 hfz32_1 hfz32_2 hfz32_3
  try clear hx259_0
  try clear hx259_1
  try clear hx259_2
  try clear hx259_3
  try clear hx260_0
  try clear hx260_1
  try clear hx260_2
  try clear hx260_3
  try clear p259
  try clear p260
  try clear q259
  try clear q260
  obtain ⟨kq, x10_8, rfl, HA, HJ8, BK257, BK258, BK261, BK262, HB⟩ := hcut
  cases kq with
  | zero => exact absurd HA.out (by simp [hunks_builder_hunk.j0])
  | succ kj8 =>
   have H := HA.out
   clear HA
   simp only [hunks_builder_hunk.j0] at H
   have H' := Aside0.mk H
   clear H
   have hnb34 := NB261_257.out
   have hnc34 := NB257_261.out
   have hnb35 := NB261_258.out
   have hnc35 := NB258_261.out
   have hnb36 := NB261_262.out
   have hnc36 := NB262_261.out
   have hcz37_0 := bkc (v := .int .i64 ((rd_T53 l1 0).f0)) BK261.out 0 rfl
   have hcz37_1 := bkc (v := .int .i64 ((rd_T53 l1 0).f1)) BK261.out 1 rfl
   have hcz37_2 := bkc (v := .int .i64 ((rd_T53 l1 0).f2)) BK261.out 2 rfl
   have hcz37_3 := bkc (v := .int .i64 ((rd_T53 l1 0).f3)) BK261.out 3 rfl
   have hfz37_0 := blk_frozen BK261.out 0
   have hfz37_1 := blk_frozen BK261.out 1
   have hfz37_2 := blk_frozen BK261.out 2
   have hfz37_3 := blk_frozen BK261.out 3
   go_wp2_with (first | ((with_reducible refine gate_dst (N := 12) rfl ?_); refine boxEv (N := 12) #[.int .i64 0, .int .i64 0, .int .i64 0, .int .i64 0, .string (⟨#[]⟩ : ByteArray), .slice none 0 0] 41 ?_; intro gb263 hg w38 hbox hb; have n0_ := Aside0.mk (blk_below (g := gb257) (o := .cells #[.slice A0_0 l0_0.length c0_0, .slice A0_1 l0_1.length c0_1] 62 (0, 0)) (bkUp BK257.out) hb); have n1_ := Aside0.mk (blk_below (g := gb258) (o := .cells #[.int .i64 0, .int .i64 0, .int .i64 0, .int .i64 0, .string (⟨#[]⟩ : ByteArray), .slice none 0 0] 41 (0, 0)) (bkUp BK258.out) hb); have n2_ := Aside0.mk (blk_below (g := gb261) (o := .cells #[.int .i64 ((rd_T53 l1 0).f0), .int .i64 ((rd_T53 l1 0).f1), .int .i64 ((rd_T53 l1 0).f2), .int .i64 ((rd_T53 l1 0).f3)] 53 (0, 0)) (bkUp BK261.out) hb); have n3_ := Aside0.mk (blk_below (g := gb262) (o := .cells #[.int .i64 ((rd_T53 l1 (ji5)).f0), .int .i64 ((rd_T53 l1 (ji5)).f1), .int .i64 ((rd_T53 l1 (ji5)).f2), .int .i64 ((rd_T53 l1 (ji5)).f3)] 53 (0, 0)) (bkUp BK262.out) hb); have n4_ := Aside0.mk (below_step (belPut) hb); have n5_ := Aside0.mk (hbox); have n6_ := Aside0.mk ((by rw [hg]; exact (below_size (belPut)) : w.heap.size ≤ gb263)); have n7_ := Aside0.mk ((by rw [hg]; exact (below_size (belPut)) : w.heap.size ≤ gb263)); have n8_ := Aside0.mk ((by rw [hg]; exact Nat.ne_of_lt (blk_lt (g := gb257) (o := .cells #[.slice A0_0 l0_0.length c0_0, .slice A0_1 l0_1.length c0_1] 62 (0, 0)) (bkUp BK257.out)) : gb257 ≠ gb263)); have n9_ := Aside0.mk ((by rw [hg]; exact Nat.ne_of_gt (blk_lt (g := gb257) (o := .cells #[.slice A0_0 l0_0.length c0_0, .slice A0_1 l0_1.length c0_1] 62 (0, 0)) (bkUp BK257.out)) : gb263 ≠ gb257)); have n10_ := Aside0.mk ((by rw [hg]; exact Nat.ne_of_lt (blk_lt (g := gb258) (o := .cells #[.int .i64 0, .int .i64 0, .int .i64 0, .int .i64 0, .string (⟨#[]⟩ : ByteArray), .slice none 0 0] 41 (0, 0)) (bkUp BK258.out)) : gb258 ≠ gb263)); have n11_ := Aside0.mk ((by rw [hg]; exact Nat.ne_of_gt (blk_lt (g := gb258) (o := .cells #[.int .i64 0, .int .i64 0, .int .i64 0, .int .i64 0, .string (⟨#[]⟩ : ByteArray), .slice none 0 0] 41 (0, 0)) (bkUp BK258.out)) : gb263 ≠ gb258)); have n12_ := Aside0.mk ((by rw [hg]; exact Nat.ne_of_lt (blk_lt (g := gb261) (o := .cells #[.int .i64 ((rd_T53 l1 0).f0), .int .i64 ((rd_T53 l1 0).f1), .int .i64 ((rd_T53 l1 0).f2), .int .i64 ((rd_T53 l1 0).f3)] 53 (0, 0)) (bkUp BK261.out)) : gb261 ≠ gb263)); have n13_ := Aside0.mk ((by rw [hg]; exact Nat.ne_of_gt (blk_lt (g := gb261) (o := .cells #[.int .i64 ((rd_T53 l1 0).f0), .int .i64 ((rd_T53 l1 0).f1), .int .i64 ((rd_T53 l1 0).f2), .int .i64 ((rd_T53 l1 0).f3)] 53 (0, 0)) (bkUp BK261.out)) : gb263 ≠ gb261)); have n14_ := Aside0.mk ((by rw [hg]; exact Nat.ne_of_lt (blk_lt (g := gb262) (o := .cells #[.int .i64 ((rd_T53 l1 (ji5)).f0), .int .i64 ((rd_T53 l1 (ji5)).f1), .int .i64 ((rd_T53 l1 (ji5)).f2), .int .i64 ((rd_T53 l1 (ji5)).f3)] 53 (0, 0)) (bkUp BK262.out)) : gb262 ≠ gb263)); have n15_ := Aside0.mk ((by rw [hg]; exact Nat.ne_of_gt (blk_lt (g := gb262) (o := .cells #[.int .i64 ((rd_T53 l1 (ji5)).f0), .int .i64 ((rd_T53 l1 (ji5)).f1), .int .i64 ((rd_T53 l1 (ji5)).f2), .int .i64 ((rd_T53 l1 (ji5)).f3)] 53 (0, 0)) (bkUp BK262.out)) : gb263 ≠ gb262)); clear BK257 BK258; clear BK261 BK262 HB; have BK257 := n0_; have BK258 := n1_; have BK261 := n2_; have BK262 := n3_; have HB := n4_; have BK263 := n5_; have GW263 := n6_; have GE263 := n7_; have NB257_263 := n8_; have NB263_257 := n9_; have NB258_263 := n10_; have NB263_258 := n11_; have NB261_263 := n12_; have NB263_261 := n13_; have NB262_263 := n14_; have NB263_262 := n15_; clear n0_ n1_ n2_ n3_ n4_ n5_ n6_ n7_ n8_ n9_ n10_ n11_ n12_ n13_ n14_ n15_; clear hb hbox hg; have hnb39 := NB263_257.out; have hnc39 := NB257_263.out; have hnb40 := NB263_258.out; have hnc40 := NB258_263.out; have hnb41 := NB263_261.out; have hnc41 := NB261_263.out; have hnb42 := NB263_262.out; have hnc42 := NB262_263.out; have hcz43_0 : w38.cell? ⟨gb263, 0, none⟩ = some (.int .i64 0) := (blk_cell BK263.out 0).trans rfl; have hcz43_1 : w38.cell? ⟨gb263, 1, none⟩ = some (.int .i64 0) := (blk_cell BK263.out 1).trans rfl; have hcz43_2 : w38.cell? ⟨gb263, 2, none⟩ = some (.int .i64 0) := (blk_cell BK263.out 2).trans rfl; have hcz43_3 : w38.cell? ⟨gb263, 3, none⟩ = some (.int .i64 0) := (blk_cell BK263.out 3).trans rfl; have hcz43_4 : w38.cell? ⟨gb263, 4, none⟩ = some (.string (⟨#[]⟩ : ByteArray)) := (blk_cell BK263.out 4).trans rfl; have hcz43_5 : w38.cell? ⟨gb263, 5, none⟩ = some (.slice none 0 0) := (blk_cell BK263.out 5).trans rfl; have hfz43_0 := blk_frozen BK263.out 0; have hfz43_1 := blk_frozen BK263.out 1; have hfz43_2 := blk_frozen BK263.out 2; have hfz43_3 := blk_frozen BK263.out 3; have hfz43_4 := blk_frozen BK263.out 4; have hfz43_5 := blk_frozen BK263.out 5))
   go_loopg [13, 58] kj8 (fun kq v13 v58 w' => ∃ (x13_2 : Int) (x58_2 : Int) (x264003_2 : Int) (x264005_2 : List (S56)) (u264005 : Value), v13 = .int .i64 x13_2 ∧ v58 = .int .i64 x58_2 ∧ Aside0 (hunks_builder_hunk.l0 kq ji8 x10_8 x13_2 l1 (l1.length : Int) x58_2 l0_0 l0_1 ji8 0 (wrap64 (((rd_T53 l1 0).f2) - (wrap64 (((rd_T53 l1 0).f0) - ji8)))) x264003_2 (⟨#[]⟩ : ByteArray) x264005_2 = some (r1, r2, r3, r4, r5, r6)) ∧ Aside0 (kq ≤ kj8) ∧ Aside0 (Kd.R k56 56 w' w.heap.size (fun _ => True) u264005 x264005_2) ∧ Aside0 (w'.heap[gb257]? = some (.cells #[(.slice A0_0 l0_0.length c0_0), (.slice A0_1 l0_1.length c0_1)] 62 (0, 0))) ∧ Aside0 (w'.heap[gb258]? = some (.cells #[.int .i64 0, .int .i64 0, .int .i64 0, .int .i64 0, .string (⟨#[]⟩ : ByteArray), (.slice none 0 0)] 41 (0, 0))) ∧ Aside0 (w'.heap[gb261]? = some (.cells #[.int .i64 ((rd_T53 l1 0).f0), .int .i64 ((rd_T53 l1 0).f1), .int .i64 ((rd_T53 l1 0).f2), .int .i64 ((rd_T53 l1 0).f3)] 53 (0, 0))) ∧ Aside0 (w'.heap[gb262]? = some (.cells #[.int .i64 ((rd_T53 l1 (ji5)).f0), .int .i64 ((rd_T53 l1 (ji5)).f1), .int .i64 ((rd_T53 l1 (ji5)).f2), .int .i64 ((rd_T53 l1 (ji5)).f3)] 53 (0, 0))) ∧ Aside0 (w'.heap[gb263]? = some (.cells #[.int .i64 ji8, .int .i64 0, .int .i64 (wrap64 (((rd_T53 l1 0).f2) - (wrap64 (((rd_T53 l1 0).f0) - ji8)))), .int .i64 x264003_2, .string (⟨#[]⟩ : ByteArray), u264005] 41 (0, 0))) ∧ Aside0 (Below w.heap.size w w'))
   case atStart => exact ⟨(ji8), (0), (0), (([] : List (S56))), (.slice none 0 0), (by first | rfl | (simp; done) | (simp only [← hji8] <;> (first | rfl | simp)) | (simp [*]; done) | (simp [*] <;> rfl)), eqNow, H', ⟨Nat.le_refl _⟩, ⟨by first | exact Kd.R_nil _ _ _ _ _ | exact Kd.N_nil _ _ _ _ _ | exact Kd.V_nil _ _ _ _ _ | exact Kd.Q_nil _ _ _ _ _ | exact Kd.S_nil _ _ _ _ _⟩, ⟨by refine bkUp ?_; refine blk_far ?_ NB257_263.out _; refine bkUp ?_; refine blk_far ?_ NB257_263.out _; refine bkUp ?_; refine blk_far ?_ NB257_263.out _; refine bkUp ?_; refine blk_far ?_ NB257_263.out _; refine bkUp ?_; refine blk_far ?_ NB257_263.out _; refine bkUp ?_; refine blk_far ?_ NB257_263.out _; exact bkUp BK257.out⟩, ⟨by refine bkUp ?_; refine blk_far ?_ NB258_263.out _; refine bkUp ?_; refine blk_far ?_ NB258_263.out _; refine bkUp ?_; refine blk_far ?_ NB258_263.out _; refine bkUp ?_; refine blk_far ?_ NB258_263.out _; refine bkUp ?_; refine blk_far ?_ NB258_263.out _; refine bkUp ?_; refine blk_far ?_ NB258_263.out _; exact bkUp BK258.out⟩, ⟨by refine bkUp ?_; refine blk_far ?_ NB261_263.out _; refine bkUp ?_; refine blk_far ?_ NB261_263.out _; refine bkUp ?_; refine blk_far ?_ NB261_263.out _; refine bkUp ?_; refine blk_far ?_ NB261_263.out _; refine bkUp ?_; refine blk_far ?_ NB261_263.out _; refine bkUp ?_; refine blk_far ?_ NB261_263.out _; exact bkUp BK261.out⟩, ⟨by refine bkUp ?_; refine blk_far ?_ NB262_263.out _; refine bkUp ?_; refine blk_far ?_ NB262_263.out _; refine bkUp ?_; refine blk_far ?_ NB262_263.out _; refine bkUp ?_; refine blk_far ?_ NB262_263.out _; refine bkUp ?_; refine blk_far ?_ NB262_263.out _; refine bkUp ?_; refine blk_far ?_ NB262_263.out _; exact bkUp BK262.out⟩, ⟨by refine bkUp ?_; refine blk_put (cs := #[.int .i64 ji8, .int .i64 0, .int .i64 (wrap64 (((rd_T53 l1 0).f2) - (wrap64 (((rd_T53 l1 0).f0) - ji8)))), .int .i64 0, .string (⟨#[]⟩ : ByteArray), .slice none 0 0]) ?_ 5 _ rfl; refine bkUp ?_; refine blk_put (cs := #[.int .i64 ji8, .int .i64 0, .int .i64 (wrap64 (((rd_T53 l1 0).f2) - (wrap64 (((rd_T53 l1 0).f0) - ji8)))), .int .i64 0, .string (⟨#[]⟩ : ByteArray), .slice none 0 0]) ?_ 4 _ rfl; refine bkUp ?_; refine blk_put (cs := #[.int .i64 ji8, .int .i64 0, .int .i64 (wrap64 (((rd_T53 l1 0).f2) - (wrap64 (((rd_T53 l1 0).f0) - ji8)))), .int .i64 0, .string (⟨#[]⟩ : ByteArray), .slice none 0 0]) ?_ 3 _ rfl; refine bkUp ?_; refine blk_put (cs := #[.int .i64 ji8, .int .i64 0, .int .i64 0, .int .i64 0, .string (⟨#[]⟩ : ByteArray), .slice none 0 0]) ?_ 2 _ rfl; refine bkUp ?_; refine blk_put (cs := #[.int .i64 ji8, .int .i64 0, .int .i64 0, .int .i64 0, .string (⟨#[]⟩ : ByteArray), .slice none 0 0]) ?_ 1 _ rfl; refine bkUp ?_; refine blk_put (cs := #[.int .i64 0, .int .i64 0, .int .i64 0, .int .i64 0, .string (⟨#[]⟩ : ByteArray), .slice none 0 0]) ?_ 0 _ rfl; exact bkUp BK263.out⟩, ⟨belPut⟩⟩
   case round =>
    clear H'
    try clear c1
    try clear c2
    try clear p2
    try clear q2
    try clear hx2
    try clear qi2
    try clear c3
    try clear c4
    try clear c4b0
    try clear c4b1
    try clear c5
    try clear c6
    try clear c6b0
    try clear p6
    try clear c7
    try clear c7b0
    try clear c24
    try clear c25
    try clear p25
    try clear q25
    try clear hx25
    try clear qi25
    try clear c26
    try clear p26
    try clear q26
    try clear hx26
    try clear c28
    try clear c29
    try clear c31
    try clear c33
    try clear c33b0
    try clear c34
    try clear c35
    try clear c36
    try clear c39
    try clear c40
    try clear c41
    try clear c42
    try clear hcz27_0 hcz27_1 hcz27_2 hcz27_3
    try clear hcz30_0 hcz30_1
    try clear hcz32_0 hcz32_1 hcz32_2 hcz32_3
    try clear hcz37_0 hcz37_1 hcz37_2 hcz37_3
    try clear hcz43_0 hcz43_1 hcz43_2 hcz43_3 hcz43_4 hcz43_5
    try clear hfz27_0 hfz27_1 hfz27_2 hfz27_3
    try clear hfz30_0 hfz30_1
    try clear hfz32_0 hfz32_1 hfz32_2 hfz32_3
    try clear hfz37_0 hfz37_1 hfz37_2 hfz37_3
    try clear hfz43_0 hfz43_1 hfz43_2 hfz43_3 hfz43_4 hfz43_5
    try clear hx259_0
    try clear hx259_1
    try clear hx259_2
    try clear hx259_3
    try clear hx260_0
    try clear hx260_1
    try clear hx260_2
    try clear hx260_3
    try clear p2
    try clear p25
    try clear p259
    try clear p26
    try clear p260
    try clear p6
    try clear q2
    try clear q25
    try clear q259
    try clear q26
    try clear q260
    obtain ⟨x13_2, x58_2, x264003_2, x264005_2, u264005, rfl, rfl, HA, HK2, HO_264005, BK257, BK258, BK261, BK262, BK263, HB⟩ := hrel
    cases gk with
    | zero => exact absurd HA.out (by simp [hunks_builder_hunk.l0])
    | succ k2 =>
     have H := HA.out
     clear HA
     simp only [hunks_builder_hunk.l0] at H
     by_cases c44 : x58_2 < (l1.length : Int)
     rotate_left
     ·rw [if_neg c44] at H
      have c44b0 := decide_eq_false c44
      clear c44
      by_cases c91 : 0 ≤ x13_2
      rotate_left
      ·rw [if_neg c91] at H
       exact absurd H (by simp)
      rw [if_pos c91] at H
      have c91b0 := eq_true c91
      have c91b1 : decide (0 ≤ x13_2) = true := decide_eq_true c91
      clear c91
      by_cases c92 : x13_2 ≤ x10_8
      rotate_left
      ·rw [if_neg c92] at H
       exact absurd H (by simp)
      rw [if_pos c92] at H
      have c92b0 := eq_true c92
      have c92b1 : decide (x13_2 ≤ x10_8) = true := decide_eq_true c92
      clear c92
      by_cases c93 : x10_8 ≤ (l0_0.length : Int)
      rotate_left
      ·rw [if_neg c93] at H
       exact absurd H (by simp)
      rw [if_pos c93] at H
      have c93b0 := eq_true c93
      have c93b1 : decide (x10_8 ≤ (l0_0.length : Int)) = true := decide_eq_true c93
      clear c93
      replace H := Option.bind_eq_some_iff.mp H
      obtain ⟨t279, A940, H⟩ := H
      replace H : (if (wrap64 (x10_8 - ji8)) > 0 then (if (wrap64 (x264003_2 + (wrap64 (x10_8 - ji8)))) > 0 then (some (wrap64 (ji8 + 1), wrap64 (x10_8 - ji8), wrap64 ((wrap64 (((rd_T53 l1 0).f2) - (wrap64 (((rd_T53 l1 0).f0) - ji8)))) + 1), wrap64 (x264003_2 + (wrap64 (x10_8 - ji8))), (⟨#[]⟩ : ByteArray), t279)) else (some (wrap64 (ji8 + 1), wrap64 (x10_8 - ji8), (wrap64 (((rd_T53 l1 0).f2) - (wrap64 (((rd_T53 l1 0).f0) - ji8)))), wrap64 (x264003_2 + (wrap64 (x10_8 - ji8))), (⟨#[]⟩ : ByteArray), t279))) else (if (wrap64 (x264003_2 + (wrap64 (x10_8 - ji8)))) > 0 then (some (ji8, wrap64 (x10_8 - ji8), wrap64 ((wrap64 (((rd_T53 l1 0).f2) - (wrap64 (((rd_T53 l1 0).f0) - ji8)))) + 1), wrap64 (x264003_2 + (wrap64 (x10_8 - ji8))), (⟨#[]⟩ : ByteArray), t279)) else (some (ji8, wrap64 (x10_8 - ji8), (wrap64 (((rd_T53 l1 0).f2) - (wrap64 (((rd_T53 l1 0).f0) - ji8)))), wrap64 (x264003_2 + (wrap64 (x10_8 - ji8))), (⟨#[]⟩ : ByteArray), t279)))) = some (r1, r2, r3, r4, r5, r6) := H
      have A94 := Aside0.mk A940
      clear A940
      by_cases c95 : (wrap64 (x10_8 - ji8)) > 0
      rotate_left
      ·rw [if_neg c95] at H
       have c95b0 := decide_eq_false c95
       clear c95
       by_cases c127 : (wrap64 (x264003_2 + (wrap64 (x10_8 - ji8)))) > 0
       rotate_left
       ·rw [if_neg c127] at H
        have c127b0 := decide_eq_false c127
        clear c127
        simp only [Option.some.injEq, Prod.mk.injEq] at H
        obtain ⟨rfl, rfl, rfl, rfl, rfl, rfl⟩ := H
        try go_wp2
        have n0_ := Aside0.mk (Kd.R_drew HO_264005.out)
        have n1_ := Aside0.mk (blk_drew BK257.out)
        have n2_ := Aside0.mk (blk_drew BK258.out)
        have n3_ := Aside0.mk (blk_drew BK261.out)
        have n4_ := Aside0.mk (blk_drew BK262.out)
        have n5_ := Aside0.mk (blk_drew BK263.out)
        have n6_ := Aside0.mk (below_drew1 HB.out)
        clear HO_264005 BK257
        clear BK258 BK261
        clear BK262 BK263 HB
        have HO_264005 := n0_
        have BK257 := n1_
        have BK258 := n2_
        have BK261 := n3_
        have BK262 := n4_
        have BK263 := n5_
        have HB := n6_
        clear n0_ n1_ n2_ n3_ n4_ n5_ n6_
        obtain ⟨i0144, hi0144, _, hsz144, _⟩ := info_parts info9
        obtain ⟨A144, hcut144, hA144, hC144⟩ := print_mid_of (P := Tryd.prog) Value.string (⟨#[]⟩ : ByteArray) 23 9 .i64 .i64 Tryd.underlying23 hi0144 hsz144 A0_0 c0_0 l0_0 x13_2 x10_8 (ofDec) (by first | omega | exact ofDec) (ofDec) HC0_0.out
        have HR278 := Aside0.mk (Kd.C_of_reads (h1 := fun _ => rfl) (hA144 _ (Kd.reads_of_C HR0_0.out)))
        have HC278 := Aside0.mk hC144
        clear hA144 hC144 hi0144 hsz144
        obtain ⟨Ao145, co145, eo145⟩ := Kd.R_slice HO_264005.out
        (first | subst eo145 | (injection eo145 with f1_ f2_ f3_; have f4_ := f1_.symm; have f5_ := f3_.symm; clear f1_ f2_ f3_; subst f4_; subst f5_))
        refine start_ (n := 10) (S := fun w' => w'.cell? ⟨gb263, 0, none⟩ = some (.int .i64 ji8) ∧ w'.cell? ⟨gb263, 1, none⟩ = some (.int .i64 0) ∧ w'.cell? ⟨gb263, 2, none⟩ = some (.int .i64 (wrap64 (((rd_T53 l1 0).f2) - (wrap64 (((rd_T53 l1 0).f0) - ji8))))) ∧ w'.cell? ⟨gb263, 3, none⟩ = some (.int .i64 x264003_2) ∧ w'.cell? ⟨gb263, 4, none⟩ = some (.string (⟨#[]⟩ : ByteArray)) ∧ w'.cell? ⟨gb263, 5, none⟩ = some (.slice Ao145 x264005_2.length co145) ∧ w'.cell? ⟨gb257, 0, none⟩ = some (.slice A0_0 l0_0.length c0_0) ∧ w'.cell? ⟨gb257, 1, none⟩ = some (.slice A0_1 l0_1.length c0_1)) (ds := [9]) (Array.replicate 10 false) (by kernel_rfl) rfl rfl ⟨bc BK263 0, bc BK263 1, bc BK263 2, bc BK263 3, bc BK263 4, bc BK263 5, bc BK257 0, bc BK257 1⟩ (fun hHeld => ?_); refine with_tabW hunks_builder_hunk.tab18 hunks_builder_hunk.bits18 (fun HT_ HW_ => ?_)
        generalize wr.drew = w143 at HO_264005 BK257 BK258 BK261 BK262 BK263 HB HR278 hHeld ⊢
        refine pureT 0 ?_
        refine pureT 2 ?_
        refine pureT 4 ?_
        refine pureT 5 ?_
        refine takeT 1 hHeld ?_
        refine takeT 3 hHeld ?_
        refine pureT 6 ?_
        refine oneT (N := some 122) 7 (fun K hK => ?_)
        refine goes_ Tryd.func40 (by kernel_rfl) rfl #[.slice Ao145 x264005_2.length co145, .int .i64 1, .slice A144 ((l0_0.take (x10_8 : Int).toNat).drop (x13_2 : Int).toNat).length (c0_0 - x13_2.toNat)] (by rfl) rfl rfl (by (try simp only [List.map_toArray, List.map_cons, List.map_nil]); first | done | (rw [show ((l0_0.take (x10_8 : Int).toNat).drop (x13_2 : Int).toNat).length = (x10_8.toNat - x13_2.toNat) from (by rw [List.length_drop, List.length_take]; have h_ : (x10_8 : Int) ≤ (l0_0.length : Int) := ofDec; omega)] <;> rfl) | rfl | (simp only [List.length_drop, List.length_take]; rfl)) ?_
        with_reducible refine (hunks_rows.calls k2 (fun k_ => some k_ = (.slice Ao145 x264005_2.length co145 : Value).ownBlock) (.slice Ao145 x264005_2.length co145) x264005_2 1 _ _ ((l0_0.take (x10_8 : Int).toNat).drop (x13_2 : Int).toNat) t279 w _ ?side1 ?side2 ?side3 ?side4 A94.out).mono ?_
        (case side1 => repeat (first | (with_reducible first | exact HB.out | apply below_alloc | apply pw_below_drewN | apply below_drew1 | refine below_set ?_ GE257.out | refine below_set ?_ GE258.out | refine below_set ?_ GE261.out | refine below_set ?_ GE262.out | refine below_set ?_ GE263.out) | exact HB.out))
        (case side2 => exact Kd.R_tight rfl HO_264005.out)
        (case side3 => exact Kd.C_kept_came Kd.heap_string HR278.out (belPut) (fun k_ hs_ => (fun e_ => Kd.R_base HO_264005.out k_ e_.symm) hs_))
        (case side4 => exact HC278.out)
        rintro e w146 ⟨v280, rfl, ho0, hb, hkp⟩
        refine ⟨_, rfl, ?_⟩
        have n0_ := Aside0.mk (blk_kept (bkUp BK257.out) hkp (fun hs_ => (fun e_ => (Kd.R_ne HO_264005.out BK257.out (by decide)) e_) hs_))
        have n1_ := Aside0.mk (blk_kept (bkUp BK258.out) hkp (fun hs_ => (fun e_ => (Kd.R_ne HO_264005.out BK258.out (by decide)) e_) hs_))
        have n2_ := Aside0.mk (blk_kept (bkUp BK261.out) hkp (fun hs_ => (fun e_ => (Kd.R_ne HO_264005.out BK261.out (by decide)) e_) hs_))
        have n3_ := Aside0.mk (blk_kept (bkUp BK262.out) hkp (fun hs_ => (fun e_ => (Kd.R_ne HO_264005.out BK262.out (by decide)) e_) hs_))
        have n4_ := Aside0.mk (blk_kept (bkUp BK263.out) hkp (fun hs_ => (fun e_ => (Kd.R_ne HO_264005.out BK263.out (by decide)) e_) hs_))
        have n5_ := Aside0.mk (Kd.R_mono (ok' := fun k_ => True) ho0 (fun k_ hk_ => trivial))
        have n6_ := Aside0.mk (hb)
        clear BK257 BK258
        clear BK261 BK262
        clear BK263 HB HO_264005
        have BK257 := n0_
        have BK258 := n1_
        have BK261 := n2_
        have BK262 := n3_
        have BK263 := n4_
        have HO281 := n5_
        have HB := n6_
        clear n0_ n1_ n2_ n3_ n4_ n5_ n6_
        (try clear hb)
        (try clear hkp)
        (try clear ho0)
        obtain ⟨Ao147, co147, eo147⟩ := Kd.R_slice HO281.out
        (first | subst eo147 | (injection eo147 with f1_ f2_ f3_; have f4_ := f1_.symm; have f5_ := f3_.symm; clear f1_ f2_ f3_; subst f4_; subst f5_))
        refine hK.out _ _ ⟨bc BK263 0, bc BK263 1, bc BK263 2, bc BK263 3, bc BK263 4, bc BK263 5, bc BK257 0, bc BK257 1⟩ (fun hHeld => ?_)
        clear hK K
        refine putT ?_
        refine pureT 8 ?_
        refine last_ (i := 9) (N := none) #[true, true, true, true, true, true, true, true, true, true] rfl rfl (one_of HT_.out (by kernel_rfl)) (by decide) (fun K hK => ?_)
        have hs148 : w146.cell? ⟨gb263, 5, none⟩ = some (.slice Ao145 x264005_2.length co145) := (blk_cell BK263.out 5).trans rfl
        have hfs148 := blk_frozen BK263.out 5
        have hns148_0 := NB257_263.out
        have hns148_1 := NB258_263.out
        have hns148_2 := NB261_263.out
        have hns148_3 := NB262_263.out
        have hms148_0 := NB263_257.out
        have hms148_1 := NB263_258.out
        have hms148_2 := NB263_261.out
        have hms148_3 := NB263_262.out
        refine skip_ (w1 := ?_) (by rfl) rfl ?_ ?_
        rotate_left
        ·go_simp
         rfl
        refine hK.out _ _ ?_
        clear hK K
        refine done_ (done_of HT_.out (by kernel_rfl)) ?_
        have hnb149 := NB263_257.out
        have hnc149 := NB257_263.out
        have hnb150 := NB263_258.out
        have hnc150 := NB258_263.out
        have hnb151 := NB263_261.out
        have hnc151 := NB261_263.out
        have hnb152 := NB263_262.out
        have hnc152 := NB262_263.out
        have hcz153_0 := bkc (v := .int .i64 ji8) BK263.out 0 rfl
        have hcz153_1 := bkc (v := .int .i64 0) BK263.out 1 rfl
        have hcz153_2 := bkc (v := .int .i64 (wrap64 (((rd_T53 l1 0).f2) - (wrap64 (((rd_T53 l1 0).f0) - ji8))))) BK263.out 2 rfl
        have hcz153_3 := bkc (v := .int .i64 x264003_2) BK263.out 3 rfl
        have hcz153_4 := bkc (v := .string (⟨#[]⟩ : ByteArray)) BK263.out 4 rfl
        have hcz153_5 := bkc (v := .slice Ao145 x264005_2.length co145) BK263.out 5 rfl
        have hfz153_0 := blk_frozen BK263.out 0
        have hfz153_1 := blk_frozen BK263.out 1
        have hfz153_2 := blk_frozen BK263.out 2
        have hfz153_3 := blk_frozen BK263.out 3
        have hfz153_4 := blk_frozen BK263.out 4
        have hfz153_5 := blk_frozen BK263.out 5
        have hnb154 := NB258_257.out
        have hnc154 := NB257_258.out
        have hnb155 := NB258_261.out
        have hnc155 := NB261_258.out
        have hnb156 := NB258_262.out
        have hnc156 := NB262_258.out
        have hcz157_0 := bkc (v := .int .i64 0) BK258.out 0 rfl
        have hcz157_1 := bkc (v := .int .i64 0) BK258.out 1 rfl
        have hcz157_2 := bkc (v := .int .i64 0) BK258.out 2 rfl
        have hcz157_3 := bkc (v := .int .i64 0) BK258.out 3 rfl
        have hcz157_4 := bkc (v := .string (⟨#[]⟩ : ByteArray)) BK258.out 4 rfl
        have hcz157_5 := bkc (v := .slice none 0 0) BK258.out 5 rfl
        have hfz157_0 := blk_frozen BK258.out 0
        have hfz157_1 := blk_frozen BK258.out 1
        have hfz157_2 := blk_frozen BK258.out 2
        have hfz157_3 := blk_frozen BK258.out 3
        have hfz157_4 := blk_frozen BK258.out 4
        have hfz157_5 := blk_frozen BK258.out 5
        try go_wp2
        refine bodyPost_ret (results_cell_row rfl _ _ gb258 41 #[.int .i64 ji8, .int .i64 (wrap64 (x10_8 - ji8)), .int .i64 (wrap64 (((rd_T53 l1 0).f2) - (wrap64 (((rd_T53 l1 0).f0) - ji8)))), .int .i64 (wrap64 (x264003_2 + (wrap64 (x10_8 - ji8)))), .string (⟨#[]⟩ : ByteArray), .slice Ao147 t279.length co147] (0, 0) _ rfl (by refine bkUp ?_; refine blk_put (cs := #[.int .i64 ji8, .int .i64 (wrap64 (x10_8 - ji8)), .int .i64 (wrap64 (((rd_T53 l1 0).f2) - (wrap64 (((rd_T53 l1 0).f0) - ji8)))), .int .i64 (wrap64 (x264003_2 + (wrap64 (x10_8 - ji8)))), .string (⟨#[]⟩ : ByteArray), .slice none 0 0]) ?_ 5 _ rfl; refine bkUp ?_; refine blk_put (cs := #[.int .i64 ji8, .int .i64 (wrap64 (x10_8 - ji8)), .int .i64 (wrap64 (((rd_T53 l1 0).f2) - (wrap64 (((rd_T53 l1 0).f0) - ji8)))), .int .i64 (wrap64 (x264003_2 + (wrap64 (x10_8 - ji8)))), .string (⟨#[]⟩ : ByteArray), .slice none 0 0]) ?_ 4 _ rfl; refine bkUp ?_; refine blk_put (cs := #[.int .i64 ji8, .int .i64 (wrap64 (x10_8 - ji8)), .int .i64 (wrap64 (((rd_T53 l1 0).f2) - (wrap64 (((rd_T53 l1 0).f0) - ji8)))), .int .i64 0, .string (⟨#[]⟩ : ByteArray), .slice none 0 0]) ?_ 3 _ rfl; refine bkUp ?_; refine blk_put (cs := #[.int .i64 ji8, .int .i64 (wrap64 (x10_8 - ji8)), .int .i64 0, .int .i64 0, .string (⟨#[]⟩ : ByteArray), .slice none 0 0]) ?_ 2 _ rfl; refine bkUp ?_; refine blk_put (cs := #[.int .i64 ji8, .int .i64 0, .int .i64 0, .int .i64 0, .string (⟨#[]⟩ : ByteArray), .slice none 0 0]) ?_ 1 _ rfl; refine bkUp ?_; refine blk_put (cs := #[.int .i64 0, .int .i64 0, .int .i64 0, .int .i64 0, .string (⟨#[]⟩ : ByteArray), .slice none 0 0]) ?_ 0 _ rfl; refine bkUp ?_; refine blk_far ?_ NB258_263.out _; refine bkUp ?_; refine blk_far ?_ NB258_263.out _; refine bkUp ?_; refine blk_far ?_ NB258_263.out _; exact bkUp BK258.out) Tryd.underlying41 rfl (by kernel_rfl)) rfl ?_
        exact ⟨_, by first | rfl | (simp [errW_none, errW_some] <;> rfl) | (simp only [← hji5, ← hji8]; first | rfl | (simp [errW_none, errW_some] <;> rfl)) | (simp [*, errW_none, errW_some] <;> rfl) | (simp only [i64_w, i32_w, u8_w]; first | rfl | (simp [errW_none, errW_some] <;> rfl)) | (simp only [bne_nil, beq_nil]; first | rfl | (simp <;> rfl)), by (with_reducible repeat (first | apply Kd.R_alloc | apply Kd.R_drewN | apply Kd.R_drew)); exact Kd.R_mono (Kd.R_far (p := ⟨gb258, 5, none⟩) (Kd.R_far (p := ⟨gb258, 4, none⟩) (Kd.R_far (p := ⟨gb258, 3, none⟩) (Kd.R_far (p := ⟨gb258, 2, none⟩) (Kd.R_far (p := ⟨gb258, 1, none⟩) (Kd.R_far (p := ⟨gb258, 0, none⟩) (Kd.R_far (p := ⟨gb263, 3, none⟩) (Kd.R_far (p := ⟨gb263, 1, none⟩) (Kd.R_far (p := ⟨gb263, 5, none⟩) (Kd.R_types (Kd.R_types HO281.out BK263.out (by decide)) BK258.out (by decide)) (fun _ hk => hk.1.2) (.slice Ao147 t279.length co147)) (fun _ hk => hk.1.2) (.int .i64 (wrap64 (x10_8 - ji8)))) (fun _ hk => hk.1.2) (.int .i64 (wrap64 (x264003_2 + (wrap64 (x10_8 - ji8)))))) (fun _ hk => hk.2) (.int .i64 ji8)) (fun _ hk => hk.2) (.int .i64 (wrap64 (x10_8 - ji8)))) (fun _ hk => hk.2) (.int .i64 (wrap64 (((rd_T53 l1 0).f2) - (wrap64 (((rd_T53 l1 0).f0) - ji8)))))) (fun _ hk => hk.2) (.int .i64 (wrap64 (x264003_2 + (wrap64 (x10_8 - ji8)))))) (fun _ hk => hk.2) (.string (⟨#[]⟩ : ByteArray))) (fun _ hk => hk.2) (.slice Ao147 t279.length co147)) (fun _ hk => trivial), belPut⟩
       rw [if_pos c127] at H
       have c127b0 := decide_eq_true c127
       clear c127
       simp only [Option.some.injEq, Prod.mk.injEq] at H
       obtain ⟨rfl, rfl, rfl, rfl, rfl, rfl⟩ := H
       try go_wp2
       have n0_ := Aside0.mk (Kd.R_drew HO_264005.out)
       have n1_ := Aside0.mk (blk_drew BK257.out)
       have n2_ := Aside0.mk (blk_drew BK258.out)
       have n3_ := Aside0.mk (blk_drew BK261.out)
       have n4_ := Aside0.mk (blk_drew BK262.out)
       have n5_ := Aside0.mk (blk_drew BK263.out)
       have n6_ := Aside0.mk (below_drew1 HB.out)
       clear HO_264005 BK257
       clear BK258 BK261
       clear BK262 BK263 HB
       have HO_264005 := n0_
       have BK257 := n1_
       have BK258 := n2_
       have BK261 := n3_
       have BK262 := n4_
       have BK263 := n5_
       have HB := n6_
       clear n0_ n1_ n2_ n3_ n4_ n5_ n6_
       obtain ⟨i0129, hi0129, _, hsz129, _⟩ := info_parts info9
       obtain ⟨A129, hcut129, hA129, hC129⟩ := print_mid_of (P := Tryd.prog) Value.string (⟨#[]⟩ : ByteArray) 23 9 .i64 .i64 Tryd.underlying23 hi0129 hsz129 A0_0 c0_0 l0_0 x13_2 x10_8 (ofDec) (by first | omega | exact ofDec) (ofDec) HC0_0.out
       have HR278 := Aside0.mk (Kd.C_of_reads (h1 := fun _ => rfl) (hA129 _ (Kd.reads_of_C HR0_0.out)))
       have HC278 := Aside0.mk hC129
       clear hA129 hC129 hi0129 hsz129
       obtain ⟨Ao130, co130, eo130⟩ := Kd.R_slice HO_264005.out
       (first | subst eo130 | (injection eo130 with f1_ f2_ f3_; have f4_ := f1_.symm; have f5_ := f3_.symm; clear f1_ f2_ f3_; subst f4_; subst f5_))
       refine start_ (n := 10) (S := fun w' => w'.cell? ⟨gb263, 0, none⟩ = some (.int .i64 ji8) ∧ w'.cell? ⟨gb263, 1, none⟩ = some (.int .i64 0) ∧ w'.cell? ⟨gb263, 2, none⟩ = some (.int .i64 (wrap64 (((rd_T53 l1 0).f2) - (wrap64 (((rd_T53 l1 0).f0) - ji8))))) ∧ w'.cell? ⟨gb263, 3, none⟩ = some (.int .i64 x264003_2) ∧ w'.cell? ⟨gb263, 4, none⟩ = some (.string (⟨#[]⟩ : ByteArray)) ∧ w'.cell? ⟨gb263, 5, none⟩ = some (.slice Ao130 x264005_2.length co130) ∧ w'.cell? ⟨gb257, 0, none⟩ = some (.slice A0_0 l0_0.length c0_0) ∧ w'.cell? ⟨gb257, 1, none⟩ = some (.slice A0_1 l0_1.length c0_1)) (ds := [9]) (Array.replicate 10 false) (by kernel_rfl) rfl rfl ⟨bc BK263 0, bc BK263 1, bc BK263 2, bc BK263 3, bc BK263 4, bc BK263 5, bc BK257 0, bc BK257 1⟩ (fun hHeld => ?_); refine with_tabW hunks_builder_hunk.tab18 hunks_builder_hunk.bits18 (fun HT_ HW_ => ?_)
       generalize wr.drew = w128 at HO_264005 BK257 BK258 BK261 BK262 BK263 HB HR278 hHeld ⊢
       refine pureT 0 ?_
       refine pureT 2 ?_
       refine pureT 4 ?_
       refine pureT 5 ?_
       refine takeT 1 hHeld ?_
       refine takeT 3 hHeld ?_
       refine pureT 6 ?_
       refine oneT (N := some 122) 7 (fun K hK => ?_)
       refine goes_ Tryd.func40 (by kernel_rfl) rfl #[.slice Ao130 x264005_2.length co130, .int .i64 1, .slice A129 ((l0_0.take (x10_8 : Int).toNat).drop (x13_2 : Int).toNat).length (c0_0 - x13_2.toNat)] (by rfl) rfl rfl (by (try simp only [List.map_toArray, List.map_cons, List.map_nil]); first | done | (rw [show ((l0_0.take (x10_8 : Int).toNat).drop (x13_2 : Int).toNat).length = (x10_8.toNat - x13_2.toNat) from (by rw [List.length_drop, List.length_take]; have h_ : (x10_8 : Int) ≤ (l0_0.length : Int) := ofDec; omega)] <;> rfl) | rfl | (simp only [List.length_drop, List.length_take]; rfl)) ?_
       with_reducible refine (hunks_rows.calls k2 (fun k_ => some k_ = (.slice Ao130 x264005_2.length co130 : Value).ownBlock) (.slice Ao130 x264005_2.length co130) x264005_2 1 _ _ ((l0_0.take (x10_8 : Int).toNat).drop (x13_2 : Int).toNat) t279 w _ ?side1 ?side2 ?side3 ?side4 A94.out).mono ?_
       (case side1 => repeat (first | (with_reducible first | exact HB.out | apply below_alloc | apply pw_below_drewN | apply below_drew1 | refine below_set ?_ GE257.out | refine below_set ?_ GE258.out | refine below_set ?_ GE261.out | refine below_set ?_ GE262.out | refine below_set ?_ GE263.out) | exact HB.out))
       (case side2 => exact Kd.R_tight rfl HO_264005.out)
       (case side3 => exact Kd.C_kept_came Kd.heap_string HR278.out (belPut) (fun k_ hs_ => (fun e_ => Kd.R_base HO_264005.out k_ e_.symm) hs_))
       (case side4 => exact HC278.out)
       rintro e w131 ⟨v280, rfl, ho0, hb, hkp⟩
       refine ⟨_, rfl, ?_⟩
       have n0_ := Aside0.mk (blk_kept (bkUp BK257.out) hkp (fun hs_ => (fun e_ => (Kd.R_ne HO_264005.out BK257.out (by decide)) e_) hs_))
       have n1_ := Aside0.mk (blk_kept (bkUp BK258.out) hkp (fun hs_ => (fun e_ => (Kd.R_ne HO_264005.out BK258.out (by decide)) e_) hs_))
       have n2_ := Aside0.mk (blk_kept (bkUp BK261.out) hkp (fun hs_ => (fun e_ => (Kd.R_ne HO_264005.out BK261.out (by decide)) e_) hs_))
       have n3_ := Aside0.mk (blk_kept (bkUp BK262.out) hkp (fun hs_ => (fun e_ => (Kd.R_ne HO_264005.out BK262.out (by decide)) e_) hs_))
       have n4_ := Aside0.mk (blk_kept (bkUp BK263.out) hkp (fun hs_ => (fun e_ => (Kd.R_ne HO_264005.out BK263.out (by decide)) e_) hs_))
       have n5_ := Aside0.mk (Kd.R_mono (ok' := fun k_ => True) ho0 (fun k_ hk_ => trivial))
       have n6_ := Aside0.mk (hb)
       clear BK257 BK258
       clear BK261 BK262
       clear BK263 HB HO_264005
       have BK257 := n0_
       have BK258 := n1_
       have BK261 := n2_
       have BK262 := n3_
       have BK263 := n4_
       have HO281 := n5_
       have HB := n6_
       clear n0_ n1_ n2_ n3_ n4_ n5_ n6_
       (try clear hb)
       (try clear hkp)
       (try clear ho0)
       obtain ⟨Ao132, co132, eo132⟩ := Kd.R_slice HO281.out
       (first | subst eo132 | (injection eo132 with f1_ f2_ f3_; have f4_ := f1_.symm; have f5_ := f3_.symm; clear f1_ f2_ f3_; subst f4_; subst f5_))
       refine hK.out _ _ ⟨bc BK263 0, bc BK263 1, bc BK263 2, bc BK263 3, bc BK263 4, bc BK263 5, bc BK257 0, bc BK257 1⟩ (fun hHeld => ?_)
       clear hK K
       refine putT ?_
       refine pureT 8 ?_
       refine last_ (i := 9) (N := none) #[true, true, true, true, true, true, true, true, true, true] rfl rfl (one_of HT_.out (by kernel_rfl)) (by decide) (fun K hK => ?_)
       have hs133 : w131.cell? ⟨gb263, 5, none⟩ = some (.slice Ao130 x264005_2.length co130) := (blk_cell BK263.out 5).trans rfl
       have hfs133 := blk_frozen BK263.out 5
       have hns133_0 := NB257_263.out
       have hns133_1 := NB258_263.out
       have hns133_2 := NB261_263.out
       have hns133_3 := NB262_263.out
       have hms133_0 := NB263_257.out
       have hms133_1 := NB263_258.out
       have hms133_2 := NB263_261.out
       have hms133_3 := NB263_262.out
       refine skip_ (w1 := ?_) (by rfl) rfl ?_ ?_
       rotate_left
       ·go_simp
        rfl
       refine hK.out _ _ ?_
       clear hK K
       refine done_ (done_of HT_.out (by kernel_rfl)) ?_
       have hnb134 := NB263_257.out
       have hnc134 := NB257_263.out
       have hnb135 := NB263_258.out
       have hnc135 := NB258_263.out
       have hnb136 := NB263_261.out
       have hnc136 := NB261_263.out
       have hnb137 := NB263_262.out
       have hnc137 := NB262_263.out
       have hcz138_0 := bkc (v := .int .i64 ji8) BK263.out 0 rfl
       have hcz138_1 := bkc (v := .int .i64 0) BK263.out 1 rfl
       have hcz138_2 := bkc (v := .int .i64 (wrap64 (((rd_T53 l1 0).f2) - (wrap64 (((rd_T53 l1 0).f0) - ji8))))) BK263.out 2 rfl
       have hcz138_3 := bkc (v := .int .i64 x264003_2) BK263.out 3 rfl
       have hcz138_4 := bkc (v := .string (⟨#[]⟩ : ByteArray)) BK263.out 4 rfl
       have hcz138_5 := bkc (v := .slice Ao130 x264005_2.length co130) BK263.out 5 rfl
       have hfz138_0 := blk_frozen BK263.out 0
       have hfz138_1 := blk_frozen BK263.out 1
       have hfz138_2 := blk_frozen BK263.out 2
       have hfz138_3 := blk_frozen BK263.out 3
       have hfz138_4 := blk_frozen BK263.out 4
       have hfz138_5 := blk_frozen BK263.out 5
       have hnb139 := NB258_257.out
       have hnc139 := NB257_258.out
       have hnb140 := NB258_261.out
       have hnc140 := NB261_258.out
       have hnb141 := NB258_262.out
       have hnc141 := NB262_258.out
       have hcz142_0 := bkc (v := .int .i64 0) BK258.out 0 rfl
       have hcz142_1 := bkc (v := .int .i64 0) BK258.out 1 rfl
       have hcz142_2 := bkc (v := .int .i64 0) BK258.out 2 rfl
       have hcz142_3 := bkc (v := .int .i64 0) BK258.out 3 rfl
       have hcz142_4 := bkc (v := .string (⟨#[]⟩ : ByteArray)) BK258.out 4 rfl
       have hcz142_5 := bkc (v := .slice none 0 0) BK258.out 5 rfl
       have hfz142_0 := blk_frozen BK258.out 0
       have hfz142_1 := blk_frozen BK258.out 1
       have hfz142_2 := blk_frozen BK258.out 2
       have hfz142_3 := blk_frozen BK258.out 3
       have hfz142_4 := blk_frozen BK258.out 4
       have hfz142_5 := blk_frozen BK258.out 5
       try go_wp2
       refine bodyPost_ret (results_cell_row rfl _ _ gb258 41 #[.int .i64 ji8, .int .i64 (wrap64 (x10_8 - ji8)), .int .i64 (wrap64 ((wrap64 (((rd_T53 l1 0).f2) - (wrap64 (((rd_T53 l1 0).f0) - ji8)))) + 1)), .int .i64 (wrap64 (x264003_2 + (wrap64 (x10_8 - ji8)))), .string (⟨#[]⟩ : ByteArray), .slice Ao132 t279.length co132] (0, 0) _ rfl (by refine bkUp ?_; refine blk_put (cs := #[.int .i64 ji8, .int .i64 (wrap64 (x10_8 - ji8)), .int .i64 (wrap64 ((wrap64 (((rd_T53 l1 0).f2) - (wrap64 (((rd_T53 l1 0).f0) - ji8)))) + 1)), .int .i64 (wrap64 (x264003_2 + (wrap64 (x10_8 - ji8)))), .string (⟨#[]⟩ : ByteArray), .slice none 0 0]) ?_ 5 _ rfl; refine bkUp ?_; refine blk_put (cs := #[.int .i64 ji8, .int .i64 (wrap64 (x10_8 - ji8)), .int .i64 (wrap64 ((wrap64 (((rd_T53 l1 0).f2) - (wrap64 (((rd_T53 l1 0).f0) - ji8)))) + 1)), .int .i64 (wrap64 (x264003_2 + (wrap64 (x10_8 - ji8)))), .string (⟨#[]⟩ : ByteArray), .slice none 0 0]) ?_ 4 _ rfl; refine bkUp ?_; refine blk_put (cs := #[.int .i64 ji8, .int .i64 (wrap64 (x10_8 - ji8)), .int .i64 (wrap64 ((wrap64 (((rd_T53 l1 0).f2) - (wrap64 (((rd_T53 l1 0).f0) - ji8)))) + 1)), .int .i64 0, .string (⟨#[]⟩ : ByteArray), .slice none 0 0]) ?_ 3 _ rfl; refine bkUp ?_; refine blk_put (cs := #[.int .i64 ji8, .int .i64 (wrap64 (x10_8 - ji8)), .int .i64 0, .int .i64 0, .string (⟨#[]⟩ : ByteArray), .slice none 0 0]) ?_ 2 _ rfl; refine bkUp ?_; refine blk_put (cs := #[.int .i64 ji8, .int .i64 0, .int .i64 0, .int .i64 0, .string (⟨#[]⟩ : ByteArray), .slice none 0 0]) ?_ 1 _ rfl; refine bkUp ?_; refine blk_put (cs := #[.int .i64 0, .int .i64 0, .int .i64 0, .int .i64 0, .string (⟨#[]⟩ : ByteArray), .slice none 0 0]) ?_ 0 _ rfl; refine bkUp ?_; refine blk_far ?_ NB258_263.out _; refine bkUp ?_; refine blk_far ?_ NB258_263.out _; refine bkUp ?_; refine blk_far ?_ NB258_263.out _; refine bkUp ?_; refine blk_far ?_ NB258_263.out _; exact bkUp BK258.out) Tryd.underlying41 rfl (by kernel_rfl)) rfl ?_
       exact ⟨_, by first | rfl | (simp [errW_none, errW_some] <;> rfl) | (simp only [← hji5, ← hji8]; first | rfl | (simp [errW_none, errW_some] <;> rfl)) | (simp [*, errW_none, errW_some] <;> rfl) | (simp only [i64_w, i32_w, u8_w]; first | rfl | (simp [errW_none, errW_some] <;> rfl)) | (simp only [bne_nil, beq_nil]; first | rfl | (simp <;> rfl)), by (with_reducible repeat (first | apply Kd.R_alloc | apply Kd.R_drewN | apply Kd.R_drew)); exact Kd.R_mono (Kd.R_far (p := ⟨gb258, 5, none⟩) (Kd.R_far (p := ⟨gb258, 4, none⟩) (Kd.R_far (p := ⟨gb258, 3, none⟩) (Kd.R_far (p := ⟨gb258, 2, none⟩) (Kd.R_far (p := ⟨gb258, 1, none⟩) (Kd.R_far (p := ⟨gb258, 0, none⟩) (Kd.R_far (p := ⟨gb263, 2, none⟩) (Kd.R_far (p := ⟨gb263, 3, none⟩) (Kd.R_far (p := ⟨gb263, 1, none⟩) (Kd.R_far (p := ⟨gb263, 5, none⟩) (Kd.R_types (Kd.R_types HO281.out BK263.out (by decide)) BK258.out (by decide)) (fun _ hk => hk.1.2) (.slice Ao132 t279.length co132)) (fun _ hk => hk.1.2) (.int .i64 (wrap64 (x10_8 - ji8)))) (fun _ hk => hk.1.2) (.int .i64 (wrap64 (x264003_2 + (wrap64 (x10_8 - ji8)))))) (fun _ hk => hk.1.2) (.int .i64 (wrap64 ((wrap64 (((rd_T53 l1 0).f2) - (wrap64 (((rd_T53 l1 0).f0) - ji8)))) + 1)))) (fun _ hk => hk.2) (.int .i64 ji8)) (fun _ hk => hk.2) (.int .i64 (wrap64 (x10_8 - ji8)))) (fun _ hk => hk.2) (.int .i64 (wrap64 ((wrap64 (((rd_T53 l1 0).f2) - (wrap64 (((rd_T53 l1 0).f0) - ji8)))) + 1)))) (fun _ hk => hk.2) (.int .i64 (wrap64 (x264003_2 + (wrap64 (x10_8 - ji8)))))) (fun _ hk => hk.2) (.string (⟨#[]⟩ : ByteArray))) (fun _ hk => hk.2) (.slice Ao132 t279.length co132)) (fun _ hk => trivial), belPut⟩
      rw [if_pos c95] at H
      have c95b0 := decide_eq_true c95
      clear c95
      by_cases c96 : (wrap64 (x264003_2 + (wrap64 (x10_8 - ji8)))) > 0
      rotate_left
      ·rw [if_neg c96] at H
       have c96b0 := decide_eq_false c96
       clear c96
       simp only [Option.some.injEq, Prod.mk.injEq] at H
       obtain ⟨rfl, rfl, rfl, rfl, rfl, rfl⟩ := H
       try go_wp2
       have n0_ := Aside0.mk (Kd.R_drew HO_264005.out)
       have n1_ := Aside0.mk (blk_drew BK257.out)
       have n2_ := Aside0.mk (blk_drew BK258.out)
       have n3_ := Aside0.mk (blk_drew BK261.out)
       have n4_ := Aside0.mk (blk_drew BK262.out)
       have n5_ := Aside0.mk (blk_drew BK263.out)
       have n6_ := Aside0.mk (below_drew1 HB.out)
       clear HO_264005 BK257
       clear BK258 BK261
       clear BK262 BK263 HB
       have HO_264005 := n0_
       have BK257 := n1_
       have BK258 := n2_
       have BK261 := n3_
       have BK262 := n4_
       have BK263 := n5_
       have HB := n6_
       clear n0_ n1_ n2_ n3_ n4_ n5_ n6_
       obtain ⟨i0113, hi0113, _, hsz113, _⟩ := info_parts info9
       obtain ⟨A113, hcut113, hA113, hC113⟩ := print_mid_of (P := Tryd.prog) Value.string (⟨#[]⟩ : ByteArray) 23 9 .i64 .i64 Tryd.underlying23 hi0113 hsz113 A0_0 c0_0 l0_0 x13_2 x10_8 (ofDec) (by first | omega | exact ofDec) (ofDec) HC0_0.out
       have HR278 := Aside0.mk (Kd.C_of_reads (h1 := fun _ => rfl) (hA113 _ (Kd.reads_of_C HR0_0.out)))
       have HC278 := Aside0.mk hC113
       clear hA113 hC113 hi0113 hsz113
       obtain ⟨Ao114, co114, eo114⟩ := Kd.R_slice HO_264005.out
       (first | subst eo114 | (injection eo114 with f1_ f2_ f3_; have f4_ := f1_.symm; have f5_ := f3_.symm; clear f1_ f2_ f3_; subst f4_; subst f5_))
       refine start_ (n := 10) (S := fun w' => w'.cell? ⟨gb263, 0, none⟩ = some (.int .i64 ji8) ∧ w'.cell? ⟨gb263, 1, none⟩ = some (.int .i64 0) ∧ w'.cell? ⟨gb263, 2, none⟩ = some (.int .i64 (wrap64 (((rd_T53 l1 0).f2) - (wrap64 (((rd_T53 l1 0).f0) - ji8))))) ∧ w'.cell? ⟨gb263, 3, none⟩ = some (.int .i64 x264003_2) ∧ w'.cell? ⟨gb263, 4, none⟩ = some (.string (⟨#[]⟩ : ByteArray)) ∧ w'.cell? ⟨gb263, 5, none⟩ = some (.slice Ao114 x264005_2.length co114) ∧ w'.cell? ⟨gb257, 0, none⟩ = some (.slice A0_0 l0_0.length c0_0) ∧ w'.cell? ⟨gb257, 1, none⟩ = some (.slice A0_1 l0_1.length c0_1)) (ds := [9]) (Array.replicate 10 false) (by kernel_rfl) rfl rfl ⟨bc BK263 0, bc BK263 1, bc BK263 2, bc BK263 3, bc BK263 4, bc BK263 5, bc BK257 0, bc BK257 1⟩ (fun hHeld => ?_); refine with_tabW hunks_builder_hunk.tab18 hunks_builder_hunk.bits18 (fun HT_ HW_ => ?_)
       generalize wr.drew = w112 at HO_264005 BK257 BK258 BK261 BK262 BK263 HB HR278 hHeld ⊢
       refine pureT 0 ?_
       refine pureT 2 ?_
       refine pureT 4 ?_
       refine pureT 5 ?_
       refine takeT 1 hHeld ?_
       refine takeT 3 hHeld ?_
       refine pureT 6 ?_
       refine oneT (N := some 122) 7 (fun K hK => ?_)
       refine goes_ Tryd.func40 (by kernel_rfl) rfl #[.slice Ao114 x264005_2.length co114, .int .i64 1, .slice A113 ((l0_0.take (x10_8 : Int).toNat).drop (x13_2 : Int).toNat).length (c0_0 - x13_2.toNat)] (by rfl) rfl rfl (by (try simp only [List.map_toArray, List.map_cons, List.map_nil]); first | done | (rw [show ((l0_0.take (x10_8 : Int).toNat).drop (x13_2 : Int).toNat).length = (x10_8.toNat - x13_2.toNat) from (by rw [List.length_drop, List.length_take]; have h_ : (x10_8 : Int) ≤ (l0_0.length : Int) := ofDec; omega)] <;> rfl) | rfl | (simp only [List.length_drop, List.length_take]; rfl)) ?_
       with_reducible refine (hunks_rows.calls k2 (fun k_ => some k_ = (.slice Ao114 x264005_2.length co114 : Value).ownBlock) (.slice Ao114 x264005_2.length co114) x264005_2 1 _ _ ((l0_0.take (x10_8 : Int).toNat).drop (x13_2 : Int).toNat) t279 w _ ?side1 ?side2 ?side3 ?side4 A94.out).mono ?_
       (case side1 => repeat (first | (with_reducible first | exact HB.out | apply below_alloc | apply pw_below_drewN | apply below_drew1 | refine below_set ?_ GE257.out | refine below_set ?_ GE258.out | refine below_set ?_ GE261.out | refine below_set ?_ GE262.out | refine below_set ?_ GE263.out) | exact HB.out))
       (case side2 => exact Kd.R_tight rfl HO_264005.out)
       (case side3 => exact Kd.C_kept_came Kd.heap_string HR278.out (belPut) (fun k_ hs_ => (fun e_ => Kd.R_base HO_264005.out k_ e_.symm) hs_))
       (case side4 => exact HC278.out)
       rintro e w115 ⟨v280, rfl, ho0, hb, hkp⟩
       refine ⟨_, rfl, ?_⟩
       have n0_ := Aside0.mk (blk_kept (bkUp BK257.out) hkp (fun hs_ => (fun e_ => (Kd.R_ne HO_264005.out BK257.out (by decide)) e_) hs_))
       have n1_ := Aside0.mk (blk_kept (bkUp BK258.out) hkp (fun hs_ => (fun e_ => (Kd.R_ne HO_264005.out BK258.out (by decide)) e_) hs_))
       have n2_ := Aside0.mk (blk_kept (bkUp BK261.out) hkp (fun hs_ => (fun e_ => (Kd.R_ne HO_264005.out BK261.out (by decide)) e_) hs_))
       have n3_ := Aside0.mk (blk_kept (bkUp BK262.out) hkp (fun hs_ => (fun e_ => (Kd.R_ne HO_264005.out BK262.out (by decide)) e_) hs_))
       have n4_ := Aside0.mk (blk_kept (bkUp BK263.out) hkp (fun hs_ => (fun e_ => (Kd.R_ne HO_264005.out BK263.out (by decide)) e_) hs_))
       have n5_ := Aside0.mk (Kd.R_mono (ok' := fun k_ => True) ho0 (fun k_ hk_ => trivial))
       have n6_ := Aside0.mk (hb)
       clear BK257 BK258
       clear BK261 BK262
       clear BK263 HB HO_264005
       have BK257 := n0_
       have BK258 := n1_
       have BK261 := n2_
       have BK262 := n3_
       have BK263 := n4_
       have HO281 := n5_
       have HB := n6_
       clear n0_ n1_ n2_ n3_ n4_ n5_ n6_
       (try clear hb)
       (try clear hkp)
       (try clear ho0)
       obtain ⟨Ao116, co116, eo116⟩ := Kd.R_slice HO281.out
       (first | subst eo116 | (injection eo116 with f1_ f2_ f3_; have f4_ := f1_.symm; have f5_ := f3_.symm; clear f1_ f2_ f3_; subst f4_; subst f5_))
       refine hK.out _ _ ⟨bc BK263 0, bc BK263 1, bc BK263 2, bc BK263 3, bc BK263 4, bc BK263 5, bc BK257 0, bc BK257 1⟩ (fun hHeld => ?_)
       clear hK K
       refine putT ?_
       refine pureT 8 ?_
       refine last_ (i := 9) (N := none) #[true, true, true, true, true, true, true, true, true, true] rfl rfl (one_of HT_.out (by kernel_rfl)) (by decide) (fun K hK => ?_)
       have hs117 : w115.cell? ⟨gb263, 5, none⟩ = some (.slice Ao114 x264005_2.length co114) := (blk_cell BK263.out 5).trans rfl
       have hfs117 := blk_frozen BK263.out 5
       have hns117_0 := NB257_263.out
       have hns117_1 := NB258_263.out
       have hns117_2 := NB261_263.out
       have hns117_3 := NB262_263.out
       have hms117_0 := NB263_257.out
       have hms117_1 := NB263_258.out
       have hms117_2 := NB263_261.out
       have hms117_3 := NB263_262.out
       refine skip_ (w1 := ?_) (by rfl) rfl ?_ ?_
       rotate_left
       ·go_simp
        rfl
       refine hK.out _ _ ?_
       clear hK K
       refine done_ (done_of HT_.out (by kernel_rfl)) ?_
       have hnb118 := NB263_257.out
       have hnc118 := NB257_263.out
       have hnb119 := NB263_258.out
       have hnc119 := NB258_263.out
       have hnb120 := NB263_261.out
       have hnc120 := NB261_263.out
       have hnb121 := NB263_262.out
       have hnc121 := NB262_263.out
       have hcz122_0 := bkc (v := .int .i64 ji8) BK263.out 0 rfl
       have hcz122_1 := bkc (v := .int .i64 0) BK263.out 1 rfl
       have hcz122_2 := bkc (v := .int .i64 (wrap64 (((rd_T53 l1 0).f2) - (wrap64 (((rd_T53 l1 0).f0) - ji8))))) BK263.out 2 rfl
       have hcz122_3 := bkc (v := .int .i64 x264003_2) BK263.out 3 rfl
       have hcz122_4 := bkc (v := .string (⟨#[]⟩ : ByteArray)) BK263.out 4 rfl
       have hcz122_5 := bkc (v := .slice Ao114 x264005_2.length co114) BK263.out 5 rfl
       have hfz122_0 := blk_frozen BK263.out 0
       have hfz122_1 := blk_frozen BK263.out 1
       have hfz122_2 := blk_frozen BK263.out 2
       have hfz122_3 := blk_frozen BK263.out 3
       have hfz122_4 := blk_frozen BK263.out 4
       have hfz122_5 := blk_frozen BK263.out 5
       have hnb123 := NB258_257.out
       have hnc123 := NB257_258.out
       have hnb124 := NB258_261.out
       have hnc124 := NB261_258.out
       have hnb125 := NB258_262.out
       have hnc125 := NB262_258.out
       have hcz126_0 := bkc (v := .int .i64 0) BK258.out 0 rfl
       have hcz126_1 := bkc (v := .int .i64 0) BK258.out 1 rfl
       have hcz126_2 := bkc (v := .int .i64 0) BK258.out 2 rfl
       have hcz126_3 := bkc (v := .int .i64 0) BK258.out 3 rfl
       have hcz126_4 := bkc (v := .string (⟨#[]⟩ : ByteArray)) BK258.out 4 rfl
       have hcz126_5 := bkc (v := .slice none 0 0) BK258.out 5 rfl
       have hfz126_0 := blk_frozen BK258.out 0
       have hfz126_1 := blk_frozen BK258.out 1
       have hfz126_2 := blk_frozen BK258.out 2
       have hfz126_3 := blk_frozen BK258.out 3
       have hfz126_4 := blk_frozen BK258.out 4
       have hfz126_5 := blk_frozen BK258.out 5
       try go_wp2
       refine bodyPost_ret (results_cell_row rfl _ _ gb258 41 #[.int .i64 (wrap64 (ji8 + 1)), .int .i64 (wrap64 (x10_8 - ji8)), .int .i64 (wrap64 (((rd_T53 l1 0).f2) - (wrap64 (((rd_T53 l1 0).f0) - ji8)))), .int .i64 (wrap64 (x264003_2 + (wrap64 (x10_8 - ji8)))), .string (⟨#[]⟩ : ByteArray), .slice Ao116 t279.length co116] (0, 0) _ rfl (by refine bkUp ?_; refine blk_put (cs := #[.int .i64 (wrap64 (ji8 + 1)), .int .i64 (wrap64 (x10_8 - ji8)), .int .i64 (wrap64 (((rd_T53 l1 0).f2) - (wrap64 (((rd_T53 l1 0).f0) - ji8)))), .int .i64 (wrap64 (x264003_2 + (wrap64 (x10_8 - ji8)))), .string (⟨#[]⟩ : ByteArray), .slice none 0 0]) ?_ 5 _ rfl; refine bkUp ?_; refine blk_put (cs := #[.int .i64 (wrap64 (ji8 + 1)), .int .i64 (wrap64 (x10_8 - ji8)), .int .i64 (wrap64 (((rd_T53 l1 0).f2) - (wrap64 (((rd_T53 l1 0).f0) - ji8)))), .int .i64 (wrap64 (x264003_2 + (wrap64 (x10_8 - ji8)))), .string (⟨#[]⟩ : ByteArray), .slice none 0 0]) ?_ 4 _ rfl; refine bkUp ?_; refine blk_put (cs := #[.int .i64 (wrap64 (ji8 + 1)), .int .i64 (wrap64 (x10_8 - ji8)), .int .i64 (wrap64 (((rd_T53 l1 0).f2) - (wrap64 (((rd_T53 l1 0).f0) - ji8)))), .int .i64 0, .string (⟨#[]⟩ : ByteArray), .slice none 0 0]) ?_ 3 _ rfl; refine bkUp ?_; refine blk_put (cs := #[.int .i64 (wrap64 (ji8 + 1)), .int .i64 (wrap64 (x10_8 - ji8)), .int .i64 0, .int .i64 0, .string (⟨#[]⟩ : ByteArray), .slice none 0 0]) ?_ 2 _ rfl; refine bkUp ?_; refine blk_put (cs := #[.int .i64 (wrap64 (ji8 + 1)), .int .i64 0, .int .i64 0, .int .i64 0, .string (⟨#[]⟩ : ByteArray), .slice none 0 0]) ?_ 1 _ rfl; refine bkUp ?_; refine blk_put (cs := #[.int .i64 0, .int .i64 0, .int .i64 0, .int .i64 0, .string (⟨#[]⟩ : ByteArray), .slice none 0 0]) ?_ 0 _ rfl; refine bkUp ?_; refine blk_far ?_ NB258_263.out _; refine bkUp ?_; refine blk_far ?_ NB258_263.out _; refine bkUp ?_; refine blk_far ?_ NB258_263.out _; refine bkUp ?_; refine blk_far ?_ NB258_263.out _; exact bkUp BK258.out) Tryd.underlying41 rfl (by kernel_rfl)) rfl ?_
       exact ⟨_, by first | rfl | (simp [errW_none, errW_some] <;> rfl) | (simp only [← hji5, ← hji8]; first | rfl | (simp [errW_none, errW_some] <;> rfl)) | (simp [*, errW_none, errW_some] <;> rfl) | (simp only [i64_w, i32_w, u8_w]; first | rfl | (simp [errW_none, errW_some] <;> rfl)) | (simp only [bne_nil, beq_nil]; first | rfl | (simp <;> rfl)), by (with_reducible repeat (first | apply Kd.R_alloc | apply Kd.R_drewN | apply Kd.R_drew)); exact Kd.R_mono (Kd.R_far (p := ⟨gb258, 5, none⟩) (Kd.R_far (p := ⟨gb258, 4, none⟩) (Kd.R_far (p := ⟨gb258, 3, none⟩) (Kd.R_far (p := ⟨gb258, 2, none⟩) (Kd.R_far (p := ⟨gb258, 1, none⟩) (Kd.R_far (p := ⟨gb258, 0, none⟩) (Kd.R_far (p := ⟨gb263, 0, none⟩) (Kd.R_far (p := ⟨gb263, 3, none⟩) (Kd.R_far (p := ⟨gb263, 1, none⟩) (Kd.R_far (p := ⟨gb263, 5, none⟩) (Kd.R_types (Kd.R_types HO281.out BK263.out (by decide)) BK258.out (by decide)) (fun _ hk => hk.1.2) (.slice Ao116 t279.length co116)) (fun _ hk => hk.1.2) (.int .i64 (wrap64 (x10_8 - ji8)))) (fun _ hk => hk.1.2) (.int .i64 (wrap64 (x264003_2 + (wrap64 (x10_8 - ji8)))))) (fun _ hk => hk.1.2) (.int .i64 (wrap64 (ji8 + 1)))) (fun _ hk => hk.2) (.int .i64 (wrap64 (ji8 + 1)))) (fun _ hk => hk.2) (.int .i64 (wrap64 (x10_8 - ji8)))) (fun _ hk => hk.2) (.int .i64 (wrap64 (((rd_T53 l1 0).f2) - (wrap64 (((rd_T53 l1 0).f0) - ji8)))))) (fun _ hk => hk.2) (.int .i64 (wrap64 (x264003_2 + (wrap64 (x10_8 - ji8)))))) (fun _ hk => hk.2) (.string (⟨#[]⟩ : ByteArray))) (fun _ hk => hk.2) (.slice Ao116 t279.length co116)) (fun _ hk => trivial), belPut⟩
      rw [if_pos c96] at H
      have c96b0 := decide_eq_true c96
      clear c96
      simp only [Option.some.injEq, Prod.mk.injEq] at H
      obtain ⟨rfl, rfl, rfl, rfl, rfl, rfl⟩ := H
      try go_wp2
      have n0_ := Aside0.mk (Kd.R_drew HO_264005.out)
      have n1_ := Aside0.mk (blk_drew BK257.out)
      have n2_ := Aside0.mk (blk_drew BK258.out)
      have n3_ := Aside0.mk (blk_drew BK261.out)
      have n4_ := Aside0.mk (blk_drew BK262.out)
      have n5_ := Aside0.mk (blk_drew BK263.out)
      have n6_ := Aside0.mk (below_drew1 HB.out)
      clear HO_264005 BK257
      clear BK258 BK261
      clear BK262 BK263 HB
      have HO_264005 := n0_
      have BK257 := n1_
      have BK258 := n2_
      have BK261 := n3_
      have BK262 := n4_
      have BK263 := n5_
      have HB := n6_
      clear n0_ n1_ n2_ n3_ n4_ n5_ n6_
      obtain ⟨i098, hi098, _, hsz98, _⟩ := info_parts info9
      obtain ⟨A98, hcut98, hA98, hC98⟩ := print_mid_of (P := Tryd.prog) Value.string (⟨#[]⟩ : ByteArray) 23 9 .i64 .i64 Tryd.underlying23 hi098 hsz98 A0_0 c0_0 l0_0 x13_2 x10_8 (ofDec) (by first | omega | exact ofDec) (ofDec) HC0_0.out
      have HR278 := Aside0.mk (Kd.C_of_reads (h1 := fun _ => rfl) (hA98 _ (Kd.reads_of_C HR0_0.out)))
      have HC278 := Aside0.mk hC98
      clear hA98 hC98 hi098 hsz98
      obtain ⟨Ao99, co99, eo99⟩ := Kd.R_slice HO_264005.out
      (first | subst eo99 | (injection eo99 with f1_ f2_ f3_; have f4_ := f1_.symm; have f5_ := f3_.symm; clear f1_ f2_ f3_; subst f4_; subst f5_))
      refine start_ (n := 10) (S := fun w' => w'.cell? ⟨gb263, 0, none⟩ = some (.int .i64 ji8) ∧ w'.cell? ⟨gb263, 1, none⟩ = some (.int .i64 0) ∧ w'.cell? ⟨gb263, 2, none⟩ = some (.int .i64 (wrap64 (((rd_T53 l1 0).f2) - (wrap64 (((rd_T53 l1 0).f0) - ji8))))) ∧ w'.cell? ⟨gb263, 3, none⟩ = some (.int .i64 x264003_2) ∧ w'.cell? ⟨gb263, 4, none⟩ = some (.string (⟨#[]⟩ : ByteArray)) ∧ w'.cell? ⟨gb263, 5, none⟩ = some (.slice Ao99 x264005_2.length co99) ∧ w'.cell? ⟨gb257, 0, none⟩ = some (.slice A0_0 l0_0.length c0_0) ∧ w'.cell? ⟨gb257, 1, none⟩ = some (.slice A0_1 l0_1.length c0_1)) (ds := [9]) (Array.replicate 10 false) (by kernel_rfl) rfl rfl ⟨bc BK263 0, bc BK263 1, bc BK263 2, bc BK263 3, bc BK263 4, bc BK263 5, bc BK257 0, bc BK257 1⟩ (fun hHeld => ?_); refine with_tabW hunks_builder_hunk.tab18 hunks_builder_hunk.bits18 (fun HT_ HW_ => ?_)
      generalize wr.drew = w97 at HO_264005 BK257 BK258 BK261 BK262 BK263 HB HR278 hHeld ⊢
      refine pureT 0 ?_
      refine pureT 2 ?_
      refine pureT 4 ?_
      refine pureT 5 ?_
      refine takeT 1 hHeld ?_
      refine takeT 3 hHeld ?_
      refine pureT 6 ?_
      refine oneT (N := some 122) 7 (fun K hK => ?_)
      refine goes_ Tryd.func40 (by kernel_rfl) rfl #[.slice Ao99 x264005_2.length co99, .int .i64 1, .slice A98 ((l0_0.take (x10_8 : Int).toNat).drop (x13_2 : Int).toNat).length (c0_0 - x13_2.toNat)] (by rfl) rfl rfl (by (try simp only [List.map_toArray, List.map_cons, List.map_nil]); first | done | (rw [show ((l0_0.take (x10_8 : Int).toNat).drop (x13_2 : Int).toNat).length = (x10_8.toNat - x13_2.toNat) from (by rw [List.length_drop, List.length_take]; have h_ : (x10_8 : Int) ≤ (l0_0.length : Int) := ofDec; omega)] <;> rfl) | rfl | (simp only [List.length_drop, List.length_take]; rfl)) ?_
      with_reducible refine (hunks_rows.calls k2 (fun k_ => some k_ = (.slice Ao99 x264005_2.length co99 : Value).ownBlock) (.slice Ao99 x264005_2.length co99) x264005_2 1 _ _ ((l0_0.take (x10_8 : Int).toNat).drop (x13_2 : Int).toNat) t279 w _ ?side1 ?side2 ?side3 ?side4 A94.out).mono ?_
      (case side1 => repeat (first | (with_reducible first | exact HB.out | apply below_alloc | apply pw_below_drewN | apply below_drew1 | refine below_set ?_ GE257.out | refine below_set ?_ GE258.out | refine below_set ?_ GE261.out | refine below_set ?_ GE262.out | refine below_set ?_ GE263.out) | exact HB.out))
      (case side2 => exact Kd.R_tight rfl HO_264005.out)
      (case side3 => exact Kd.C_kept_came Kd.heap_string HR278.out (belPut) (fun k_ hs_ => (fun e_ => Kd.R_base HO_264005.out k_ e_.symm) hs_))
      (case side4 => exact HC278.out)
      rintro e w100 ⟨v280, rfl, ho0, hb, hkp⟩
      refine ⟨_, rfl, ?_⟩
      have n0_ := Aside0.mk (blk_kept (bkUp BK257.out) hkp (fun hs_ => (fun e_ => (Kd.R_ne HO_264005.out BK257.out (by decide)) e_) hs_))
      have n1_ := Aside0.mk (blk_kept (bkUp BK258.out) hkp (fun hs_ => (fun e_ => (Kd.R_ne HO_264005.out BK258.out (by decide)) e_) hs_))
      have n2_ := Aside0.mk (blk_kept (bkUp BK261.out) hkp (fun hs_ => (fun e_ => (Kd.R_ne HO_264005.out BK261.out (by decide)) e_) hs_))
      have n3_ := Aside0.mk (blk_kept (bkUp BK262.out) hkp (fun hs_ => (fun e_ => (Kd.R_ne HO_264005.out BK262.out (by decide)) e_) hs_))
      have n4_ := Aside0.mk (blk_kept (bkUp BK263.out) hkp (fun hs_ => (fun e_ => (Kd.R_ne HO_264005.out BK263.out (by decide)) e_) hs_))
      have n5_ := Aside0.mk (Kd.R_mono (ok' := fun k_ => True) ho0 (fun k_ hk_ => trivial))
      have n6_ := Aside0.mk (hb)
      clear BK257 BK258
      clear BK261 BK262
      clear BK263 HB HO_264005
      have BK257 := n0_
      have BK258 := n1_
      have BK261 := n2_
      have BK262 := n3_
      have BK263 := n4_
      have HO281 := n5_
      have HB := n6_
      clear n0_ n1_ n2_ n3_ n4_ n5_ n6_
      (try clear hb)
      (try clear hkp)
      (try clear ho0)
      obtain ⟨Ao101, co101, eo101⟩ := Kd.R_slice HO281.out
      (first | subst eo101 | (injection eo101 with f1_ f2_ f3_; have f4_ := f1_.symm; have f5_ := f3_.symm; clear f1_ f2_ f3_; subst f4_; subst f5_))
      refine hK.out _ _ ⟨bc BK263 0, bc BK263 1, bc BK263 2, bc BK263 3, bc BK263 4, bc BK263 5, bc BK257 0, bc BK257 1⟩ (fun hHeld => ?_)
      clear hK K
      refine putT ?_
      refine pureT 8 ?_
      refine last_ (i := 9) (N := none) #[true, true, true, true, true, true, true, true, true, true] rfl rfl (one_of HT_.out (by kernel_rfl)) (by decide) (fun K hK => ?_)
      have hs102 : w100.cell? ⟨gb263, 5, none⟩ = some (.slice Ao99 x264005_2.length co99) := (blk_cell BK263.out 5).trans rfl
      have hfs102 := blk_frozen BK263.out 5
      have hns102_0 := NB257_263.out
      have hns102_1 := NB258_263.out
      have hns102_2 := NB261_263.out
      have hns102_3 := NB262_263.out
      have hms102_0 := NB263_257.out
      have hms102_1 := NB263_258.out
      have hms102_2 := NB263_261.out
      have hms102_3 := NB263_262.out
      refine skip_ (w1 := ?_) (by rfl) rfl ?_ ?_
      rotate_left
      ·go_simp
       rfl
      refine hK.out _ _ ?_
      clear hK K
      refine done_ (done_of HT_.out (by kernel_rfl)) ?_
      have hnb103 := NB263_257.out
      have hnc103 := NB257_263.out
      have hnb104 := NB263_258.out
      have hnc104 := NB258_263.out
      have hnb105 := NB263_261.out
      have hnc105 := NB261_263.out
      have hnb106 := NB263_262.out
      have hnc106 := NB262_263.out
      have hcz107_0 := bkc (v := .int .i64 ji8) BK263.out 0 rfl
      have hcz107_1 := bkc (v := .int .i64 0) BK263.out 1 rfl
      have hcz107_2 := bkc (v := .int .i64 (wrap64 (((rd_T53 l1 0).f2) - (wrap64 (((rd_T53 l1 0).f0) - ji8))))) BK263.out 2 rfl
      have hcz107_3 := bkc (v := .int .i64 x264003_2) BK263.out 3 rfl
      have hcz107_4 := bkc (v := .string (⟨#[]⟩ : ByteArray)) BK263.out 4 rfl
      have hcz107_5 := bkc (v := .slice Ao99 x264005_2.length co99) BK263.out 5 rfl
      have hfz107_0 := blk_frozen BK263.out 0
      have hfz107_1 := blk_frozen BK263.out 1
      have hfz107_2 := blk_frozen BK263.out 2
      have hfz107_3 := blk_frozen BK263.out 3
      have hfz107_4 := blk_frozen BK263.out 4
      have hfz107_5 := blk_frozen BK263.out 5
      have hnb108 := NB258_257.out
      have hnc108 := NB257_258.out
      have hnb109 := NB258_261.out
      have hnc109 := NB261_258.out
      have hnb110 := NB258_262.out
      have hnc110 := NB262_258.out
      have hcz111_0 := bkc (v := .int .i64 0) BK258.out 0 rfl
      have hcz111_1 := bkc (v := .int .i64 0) BK258.out 1 rfl
      have hcz111_2 := bkc (v := .int .i64 0) BK258.out 2 rfl
      have hcz111_3 := bkc (v := .int .i64 0) BK258.out 3 rfl
      have hcz111_4 := bkc (v := .string (⟨#[]⟩ : ByteArray)) BK258.out 4 rfl
      have hcz111_5 := bkc (v := .slice none 0 0) BK258.out 5 rfl
      have hfz111_0 := blk_frozen BK258.out 0
      have hfz111_1 := blk_frozen BK258.out 1
      have hfz111_2 := blk_frozen BK258.out 2
      have hfz111_3 := blk_frozen BK258.out 3
      have hfz111_4 := blk_frozen BK258.out 4
      have hfz111_5 := blk_frozen BK258.out 5
      try go_wp2
      refine bodyPost_ret (results_cell_row rfl _ _ gb258 41 #[.int .i64 (wrap64 (ji8 + 1)), .int .i64 (wrap64 (x10_8 - ji8)), .int .i64 (wrap64 ((wrap64 (((rd_T53 l1 0).f2) - (wrap64 (((rd_T53 l1 0).f0) - ji8)))) + 1)), .int .i64 (wrap64 (x264003_2 + (wrap64 (x10_8 - ji8)))), .string (⟨#[]⟩ : ByteArray), .slice Ao101 t279.length co101] (0, 0) _ rfl (by refine bkUp ?_; refine blk_put (cs := #[.int .i64 (wrap64 (ji8 + 1)), .int .i64 (wrap64 (x10_8 - ji8)), .int .i64 (wrap64 ((wrap64 (((rd_T53 l1 0).f2) - (wrap64 (((rd_T53 l1 0).f0) - ji8)))) + 1)), .int .i64 (wrap64 (x264003_2 + (wrap64 (x10_8 - ji8)))), .string (⟨#[]⟩ : ByteArray), .slice none 0 0]) ?_ 5 _ rfl; refine bkUp ?_; refine blk_put (cs := #[.int .i64 (wrap64 (ji8 + 1)), .int .i64 (wrap64 (x10_8 - ji8)), .int .i64 (wrap64 ((wrap64 (((rd_T53 l1 0).f2) - (wrap64 (((rd_T53 l1 0).f0) - ji8)))) + 1)), .int .i64 (wrap64 (x264003_2 + (wrap64 (x10_8 - ji8)))), .string (⟨#[]⟩ : ByteArray), .slice none 0 0]) ?_ 4 _ rfl; refine bkUp ?_; refine blk_put (cs := #[.int .i64 (wrap64 (ji8 + 1)), .int .i64 (wrap64 (x10_8 - ji8)), .int .i64 (wrap64 ((wrap64 (((rd_T53 l1 0).f2) - (wrap64 (((rd_T53 l1 0).f0) - ji8)))) + 1)), .int .i64 0, .string (⟨#[]⟩ : ByteArray), .slice none 0 0]) ?_ 3 _ rfl; refine bkUp ?_; refine blk_put (cs := #[.int .i64 (wrap64 (ji8 + 1)), .int .i64 (wrap64 (x10_8 - ji8)), .int .i64 0, .int .i64 0, .string (⟨#[]⟩ : ByteArray), .slice none 0 0]) ?_ 2 _ rfl; refine bkUp ?_; refine blk_put (cs := #[.int .i64 (wrap64 (ji8 + 1)), .int .i64 0, .int .i64 0, .int .i64 0, .string (⟨#[]⟩ : ByteArray), .slice none 0 0]) ?_ 1 _ rfl; refine bkUp ?_; refine blk_put (cs := #[.int .i64 0, .int .i64 0, .int .i64 0, .int .i64 0, .string (⟨#[]⟩ : ByteArray), .slice none 0 0]) ?_ 0 _ rfl; refine bkUp ?_; refine blk_far ?_ NB258_263.out _; refine bkUp ?_; refine blk_far ?_ NB258_263.out _; refine bkUp ?_; refine blk_far ?_ NB258_263.out _; refine bkUp ?_; refine blk_far ?_ NB258_263.out _; refine bkUp ?_; refine blk_far ?_ NB258_263.out _; exact bkUp BK258.out) Tryd.underlying41 rfl (by kernel_rfl)) rfl ?_
      exact ⟨_, by first | rfl | (simp [errW_none, errW_some] <;> rfl) | (simp only [← hji5, ← hji8]; first | rfl | (simp [errW_none, errW_some] <;> rfl)) | (simp [*, errW_none, errW_some] <;> rfl) | (simp only [i64_w, i32_w, u8_w]; first | rfl | (simp [errW_none, errW_some] <;> rfl)) | (simp only [bne_nil, beq_nil]; first | rfl | (simp <;> rfl)), by (with_reducible repeat (first | apply Kd.R_alloc | apply Kd.R_drewN | apply Kd.R_drew)); exact Kd.R_mono (Kd.R_far (p := ⟨gb258, 5, none⟩) (Kd.R_far (p := ⟨gb258, 4, none⟩) (Kd.R_far (p := ⟨gb258, 3, none⟩) (Kd.R_far (p := ⟨gb258, 2, none⟩) (Kd.R_far (p := ⟨gb258, 1, none⟩) (Kd.R_far (p := ⟨gb258, 0, none⟩) (Kd.R_far (p := ⟨gb263, 2, none⟩) (Kd.R_far (p := ⟨gb263, 0, none⟩) (Kd.R_far (p := ⟨gb263, 3, none⟩) (Kd.R_far (p := ⟨gb263, 1, none⟩) (Kd.R_far (p := ⟨gb263, 5, none⟩) (Kd.R_types (Kd.R_types HO281.out BK263.out (by decide)) BK258.out (by decide)) (fun _ hk => hk.1.2) (.slice Ao101 t279.length co101)) (fun _ hk => hk.1.2) (.int .i64 (wrap64 (x10_8 - ji8)))) (fun _ hk => hk.1.2) (.int .i64 (wrap64 (x264003_2 + (wrap64 (x10_8 - ji8)))))) (fun _ hk => hk.1.2) (.int .i64 (wrap64 (ji8 + 1)))) (fun _ hk => hk.1.2) (.int .i64 (wrap64 ((wrap64 (((rd_T53 l1 0).f2) - (wrap64 (((rd_T53 l1 0).f0) - ji8)))) + 1)))) (fun _ hk => hk.2) (.int .i64 (wrap64 (ji8 + 1)))) (fun _ hk => hk.2) (.int .i64 (wrap64 (x10_8 - ji8)))) (fun _ hk => hk.2) (.int .i64 (wrap64 ((wrap64 (((rd_T53 l1 0).f2) - (wrap64 (((rd_T53 l1 0).f0) - ji8)))) + 1)))) (fun _ hk => hk.2) (.int .i64 (wrap64 (x264003_2 + (wrap64 (x10_8 - ji8)))))) (fun _ hk => hk.2) (.string (⟨#[]⟩ : ByteArray))) (fun _ hk => hk.2) (.slice Ao101 t279.length co101)) (fun _ hk => trivial), belPut⟩
     rw [if_pos c44] at H
     have c44b0 := decide_eq_true c44
     clear c44
     by_cases c45 : 0 ≤ x58_2
     rotate_left
     ·rw [if_neg c45] at H
      exact absurd H (by simp)
     rw [if_pos c45] at H
     have c45b0 := decide_eq_true c45
     clear c45
     by_cases c46 : x58_2 < (l1.length : Int)
     rotate_left
     ·rw [if_neg c46] at H
      exact absurd H (by simp)
     rw [if_pos c46] at H
     have c46b0 := decide_eq_true c46
     clear c46
     by_cases c47 : 0 ≤ x13_2
     rotate_left
     ·rw [if_neg c47] at H
      exact absurd H (by simp)
     rw [if_pos c47] at H
     have c47b0 := eq_true c47
     have c47b1 : decide (0 ≤ x13_2) = true := decide_eq_true c47
     clear c47
     by_cases c48 : x13_2 ≤ ((rd_T53 l1 x58_2).f0)
     rotate_left
     ·rw [if_neg c48] at H
      exact absurd H (by simp)
     rw [if_pos c48] at H
     have c48b0 := eq_true c48
     have c48b1 : decide (x13_2 ≤ ((rd_T53 l1 x58_2).f0)) = true := decide_eq_true c48
     clear c48
     by_cases c49 : ((rd_T53 l1 x58_2).f0) ≤ (l0_0.length : Int)
     rotate_left
     ·rw [if_neg c49] at H
      exact absurd H (by simp)
     rw [if_pos c49] at H
     have c49b0 := eq_true c49
     have c49b1 : decide (((rd_T53 l1 x58_2).f0) ≤ (l0_0.length : Int)) = true := decide_eq_true c49
     clear c49
     replace H := Option.bind_eq_some_iff.mp H
     obtain ⟨t267, A500, H⟩ := H
     replace H : (if 0 ≤ ((rd_T53 l1 x58_2).f0) then (if ((rd_T53 l1 x58_2).f0) ≤ (wrap64 (((rd_T53 l1 x58_2).f0) + ((rd_T53 l1 x58_2).f1))) then (if (wrap64 (((rd_T53 l1 x58_2).f0) + ((rd_T53 l1 x58_2).f1))) ≤ (l0_0.length : Int) then ((hunks_rows.f k2 t267 2 ((l0_0.take ((wrap64 (((rd_T53 l1 x58_2).f0) + ((rd_T53 l1 x58_2).f1))) : Int).toNat).drop (((rd_T53 l1 x58_2).f0) : Int).toNat)).bind fun t271 => (if 0 ≤ ((rd_T53 l1 x58_2).f2) then (if ((rd_T53 l1 x58_2).f2) ≤ (wrap64 (((rd_T53 l1 x58_2).f2) + ((rd_T53 l1 x58_2).f3))) then (if (wrap64 (((rd_T53 l1 x58_2).f2) + ((rd_T53 l1 x58_2).f3))) ≤ (l0_1.length : Int) then ((hunks_rows.f k2 t271 3 ((l0_1.take ((wrap64 (((rd_T53 l1 x58_2).f2) + ((rd_T53 l1 x58_2).f3))) : Int).toNat).drop (((rd_T53 l1 x58_2).f2) : Int).toNat)).bind fun t275 => (hunks_builder_hunk.l0 k2 ji8 x10_8 (wrap64 (((rd_T53 l1 x58_2).f0) + ((rd_T53 l1 x58_2).f1))) l1 (l1.length : Int) (wrap64 (x58_2 + 1)) l0_0 l0_1 ji8 0 (wrap64 (((rd_T53 l1 0).f2) - (wrap64 (((rd_T53 l1 0).f0) - ji8)))) (wrap64 (x264003_2 + (wrap64 (((rd_T53 l1 x58_2).f3) - ((rd_T53 l1 x58_2).f1))))) (⟨#[]⟩ : ByteArray) t275)) else (none)) else (none)) else (none))) else (none)) else (none)) else (none)) = some (r1, r2, r3, r4, r5, r6) := H
     have A50 := Aside0.mk A500
     clear A500
     by_cases c51 : 0 ≤ ((rd_T53 l1 x58_2).f0)
     rotate_left
     ·rw [if_neg c51] at H
      exact absurd H (by simp)
     rw [if_pos c51] at H
     have c51b0 := eq_true c51
     have c51b1 : decide (0 ≤ ((rd_T53 l1 x58_2).f0)) = true := decide_eq_true c51
     clear c51
     by_cases c52 : ((rd_T53 l1 x58_2).f0) ≤ (wrap64 (((rd_T53 l1 x58_2).f0) + ((rd_T53 l1 x58_2).f1)))
     rotate_left
     ·rw [if_neg c52] at H
      exact absurd H (by simp)
     rw [if_pos c52] at H
     have c52b0 := eq_true c52
     have c52b1 : decide (((rd_T53 l1 x58_2).f0) ≤ (wrap64 (((rd_T53 l1 x58_2).f0) + ((rd_T53 l1 x58_2).f1)))) = true := decide_eq_true c52
     by_cases c53 : (wrap64 (((rd_T53 l1 x58_2).f0) + ((rd_T53 l1 x58_2).f1))) ≤ (l0_0.length : Int)
     rotate_left
     ·rw [if_neg c53] at H
      exact absurd H (by simp)
     rw [if_pos c53] at H
     have c53b0 := eq_true c53
     have c53b1 : decide ((wrap64 (((rd_T53 l1 x58_2).f0) + ((rd_T53 l1 x58_2).f1))) ≤ (l0_0.length : Int)) = true := decide_eq_true c53
     replace H := Option.bind_eq_some_iff.mp H
     obtain ⟨t271, A540, H⟩ := H
     replace H : (if 0 ≤ ((rd_T53 l1 x58_2).f2) then (if ((rd_T53 l1 x58_2).f2) ≤ (wrap64 (((rd_T53 l1 x58_2).f2) + ((rd_T53 l1 x58_2).f3))) then (if (wrap64 (((rd_T53 l1 x58_2).f2) + ((rd_T53 l1 x58_2).f3))) ≤ (l0_1.length : Int) then ((hunks_rows.f k2 t271 3 ((l0_1.take ((wrap64 (((rd_T53 l1 x58_2).f2) + ((rd_T53 l1 x58_2).f3))) : Int).toNat).drop (((rd_T53 l1 x58_2).f2) : Int).toNat)).bind fun t275 => (hunks_builder_hunk.l0 k2 ji8 x10_8 (wrap64 (((rd_T53 l1 x58_2).f0) + ((rd_T53 l1 x58_2).f1))) l1 (l1.length : Int) (wrap64 (x58_2 + 1)) l0_0 l0_1 ji8 0 (wrap64 (((rd_T53 l1 0).f2) - (wrap64 (((rd_T53 l1 0).f0) - ji8)))) (wrap64 (x264003_2 + (wrap64 (((rd_T53 l1 x58_2).f3) - ((rd_T53 l1 x58_2).f1))))) (⟨#[]⟩ : ByteArray) t275)) else (none)) else (none)) else (none)) = some (r1, r2, r3, r4, r5, r6) := H
     have A54 := Aside0.mk A540
     clear A540
     by_cases c55 : 0 ≤ ((rd_T53 l1 x58_2).f2)
     rotate_left
     ·rw [if_neg c55] at H
      exact absurd H (by simp)
     rw [if_pos c55] at H
     have c55b0 := eq_true c55
     have c55b1 : decide (0 ≤ ((rd_T53 l1 x58_2).f2)) = true := decide_eq_true c55
     clear c55
     by_cases c56 : ((rd_T53 l1 x58_2).f2) ≤ (wrap64 (((rd_T53 l1 x58_2).f2) + ((rd_T53 l1 x58_2).f3)))
     rotate_left
     ·rw [if_neg c56] at H
      exact absurd H (by simp)
     rw [if_pos c56] at H
     have c56b0 := eq_true c56
     have c56b1 : decide (((rd_T53 l1 x58_2).f2) ≤ (wrap64 (((rd_T53 l1 x58_2).f2) + ((rd_T53 l1 x58_2).f3)))) = true := decide_eq_true c56
     by_cases c57 : (wrap64 (((rd_T53 l1 x58_2).f2) + ((rd_T53 l1 x58_2).f3))) ≤ (l0_1.length : Int)
     rotate_left
     ·rw [if_neg c57] at H
      exact absurd H (by simp)
     rw [if_pos c57] at H
     have c57b0 := eq_true c57
     have c57b1 : decide ((wrap64 (((rd_T53 l1 x58_2).f2) + ((rd_T53 l1 x58_2).f3))) ≤ (l0_1.length : Int)) = true := decide_eq_true c57
     replace H := Option.bind_eq_some_iff.mp H
     obtain ⟨t275, A580, H⟩ := H
     replace H : (hunks_builder_hunk.l0 k2 ji8 x10_8 (wrap64 (((rd_T53 l1 x58_2).f0) + ((rd_T53 l1 x58_2).f1))) l1 (l1.length : Int) (wrap64 (x58_2 + 1)) l0_0 l0_1 ji8 0 (wrap64 (((rd_T53 l1 0).f2) - (wrap64 (((rd_T53 l1 0).f0) - ji8)))) (wrap64 (x264003_2 + (wrap64 (((rd_T53 l1 x58_2).f3) - ((rd_T53 l1 x58_2).f1))))) (⟨#[]⟩ : ByteArray) t275) = some (r1, r2, r3, r4, r5, r6) := H
     have A58 := Aside0.mk A580
     clear A580
     have H' := Aside0.mk H
     clear H
     have p264 : 0 ≤ (x58_2 : Int) := ofDec
     have q264 : x58_2 < (l1.length : Int) := ofDec
     obtain ⟨ad264, e264, hx264_0, hx264_1, hx264_2, hx264_3⟩ := at_T53 HR1.out x58_2 p264 q264
     obtain rfl : ad259 = ad264 := (by injection e264)
     replace hx264_0 := cUp HB.out hx264_0
     replace hx264_1 := cUp HB.out hx264_1
     replace hx264_2 := cUp HB.out hx264_2
     replace hx264_3 := cUp HB.out hx264_3
     replace p264 := eq_true p264
     replace q264 := eq_true q264
     try go_wp2_with (first | ((with_reducible refine gate_dst (N := 15) rfl ?_); refine boxEv (N := 15) #[.int .i64 0, .int .i64 0, .int .i64 0, .int .i64 0] 53 ?_; intro gb265 hg w59 hbox hb; have n0_ := Aside0.mk (Kd.R_below (kdUp HO_264005.out) hb); have n1_ := Aside0.mk (blk_below (g := gb257) (o := .cells #[.slice A0_0 l0_0.length c0_0, .slice A0_1 l0_1.length c0_1] 62 (0, 0)) (bkUp BK257.out) hb); have n2_ := Aside0.mk (blk_below (g := gb258) (o := .cells #[.int .i64 0, .int .i64 0, .int .i64 0, .int .i64 0, .string (⟨#[]⟩ : ByteArray), .slice none 0 0] 41 (0, 0)) (bkUp BK258.out) hb); have n3_ := Aside0.mk (blk_below (g := gb261) (o := .cells #[.int .i64 ((rd_T53 l1 0).f0), .int .i64 ((rd_T53 l1 0).f1), .int .i64 ((rd_T53 l1 0).f2), .int .i64 ((rd_T53 l1 0).f3)] 53 (0, 0)) (bkUp BK261.out) hb); have n4_ := Aside0.mk (blk_below (g := gb262) (o := .cells #[.int .i64 ((rd_T53 l1 (ji5)).f0), .int .i64 ((rd_T53 l1 (ji5)).f1), .int .i64 ((rd_T53 l1 (ji5)).f2), .int .i64 ((rd_T53 l1 (ji5)).f3)] 53 (0, 0)) (bkUp BK262.out) hb); have n5_ := Aside0.mk (blk_below (g := gb263) (o := .cells #[.int .i64 ji8, .int .i64 0, .int .i64 (wrap64 (((rd_T53 l1 0).f2) - (wrap64 (((rd_T53 l1 0).f0) - ji8)))), .int .i64 x264003_2, .string (⟨#[]⟩ : ByteArray), u264005] 41 (0, 0)) (bkUp BK263.out) hb); have n6_ := Aside0.mk (below_step (belPut) hb); have n7_ := Aside0.mk (hbox); have n8_ := Aside0.mk ((by rw [hg]; exact (below_size (belPut)) : w.heap.size ≤ gb265)); have n9_ := Aside0.mk ((by rw [hg]; exact (below_size (belPut)) : w.heap.size ≤ gb265)); have n10_ := Aside0.mk ((by rw [hg]; exact Nat.ne_of_lt (blk_lt (g := gb257) (o := .cells #[.slice A0_0 l0_0.length c0_0, .slice A0_1 l0_1.length c0_1] 62 (0, 0)) (bkUp BK257.out)) : gb257 ≠ gb265)); have n11_ := Aside0.mk ((by rw [hg]; exact Nat.ne_of_gt (blk_lt (g := gb257) (o := .cells #[.slice A0_0 l0_0.length c0_0, .slice A0_1 l0_1.length c0_1] 62 (0, 0)) (bkUp BK257.out)) : gb265 ≠ gb257)); have n12_ := Aside0.mk ((by rw [hg]; exact Nat.ne_of_lt (blk_lt (g := gb258) (o := .cells #[.int .i64 0, .int .i64 0, .int .i64 0, .int .i64 0, .string (⟨#[]⟩ : ByteArray), .slice none 0 0] 41 (0, 0)) (bkUp BK258.out)) : gb258 ≠ gb265)); have n13_ := Aside0.mk ((by rw [hg]; exact Nat.ne_of_gt (blk_lt (g := gb258) (o := .cells #[.int .i64 0, .int .i64 0, .int .i64 0, .int .i64 0, .string (⟨#[]⟩ : ByteArray), .slice none 0 0] 41 (0, 0)) (bkUp BK258.out)) : gb265 ≠ gb258)); have n14_ := Aside0.mk ((by rw [hg]; exact Nat.ne_of_lt (blk_lt (g := gb261) (o := .cells #[.int .i64 ((rd_T53 l1 0).f0), .int .i64 ((rd_T53 l1 0).f1), .int .i64 ((rd_T53 l1 0).f2), .int .i64 ((rd_T53 l1 0).f3)] 53 (0, 0)) (bkUp BK261.out)) : gb261 ≠ gb265)); have n15_ := Aside0.mk ((by rw [hg]; exact Nat.ne_of_gt (blk_lt (g := gb261) (o := .cells #[.int .i64 ((rd_T53 l1 0).f0), .int .i64 ((rd_T53 l1 0).f1), .int .i64 ((rd_T53 l1 0).f2), .int .i64 ((rd_T53 l1 0).f3)] 53 (0, 0)) (bkUp BK261.out)) : gb265 ≠ gb261)); have n16_ := Aside0.mk ((by rw [hg]; exact Nat.ne_of_lt (blk_lt (g := gb262) (o := .cells #[.int .i64 ((rd_T53 l1 (ji5)).f0), .int .i64 ((rd_T53 l1 (ji5)).f1), .int .i64 ((rd_T53 l1 (ji5)).f2), .int .i64 ((rd_T53 l1 (ji5)).f3)] 53 (0, 0)) (bkUp BK262.out)) : gb262 ≠ gb265)); have n17_ := Aside0.mk ((by rw [hg]; exact Nat.ne_of_gt (blk_lt (g := gb262) (o := .cells #[.int .i64 ((rd_T53 l1 (ji5)).f0), .int .i64 ((rd_T53 l1 (ji5)).f1), .int .i64 ((rd_T53 l1 (ji5)).f2), .int .i64 ((rd_T53 l1 (ji5)).f3)] 53 (0, 0)) (bkUp BK262.out)) : gb265 ≠ gb262)); have n18_ := Aside0.mk ((by rw [hg]; exact Nat.ne_of_lt (blk_lt (g := gb263) (o := .cells #[.int .i64 ji8, .int .i64 0, .int .i64 (wrap64 (((rd_T53 l1 0).f2) - (wrap64 (((rd_T53 l1 0).f0) - ji8)))), .int .i64 x264003_2, .string (⟨#[]⟩ : ByteArray), u264005] 41 (0, 0)) (bkUp BK263.out)) : gb263 ≠ gb265)); have n19_ := Aside0.mk ((by rw [hg]; exact Nat.ne_of_gt (blk_lt (g := gb263) (o := .cells #[.int .i64 ji8, .int .i64 0, .int .i64 (wrap64 (((rd_T53 l1 0).f2) - (wrap64 (((rd_T53 l1 0).f0) - ji8)))), .int .i64 x264003_2, .string (⟨#[]⟩ : ByteArray), u264005] 41 (0, 0)) (bkUp BK263.out)) : gb265 ≠ gb263)); clear HO_264005 BK257; clear BK258 BK261; clear BK262 BK263 HB; have HO_264005 := n0_; have BK257 := n1_; have BK258 := n2_; have BK261 := n3_; have BK262 := n4_; have BK263 := n5_; have HB := n6_; have BK265 := n7_; have GW265 := n8_; have GE265 := n9_; have NB257_265 := n10_; have NB265_257 := n11_; have NB258_265 := n12_; have NB265_258 := n13_; have NB261_265 := n14_; have NB265_261 := n15_; have NB262_265 := n16_; have NB265_262 := n17_; have NB263_265 := n18_; have NB265_263 := n19_; clear n0_ n1_ n2_ n3_ n4_ n5_ n6_ n7_ n8_ n9_ n10_ n11_ n12_ n13_ n14_ n15_ n16_ n17_ n18_ n19_; clear hb hbox hg; have hnb60 := NB265_257.out; have hnc60 := NB257_265.out; have hnb61 := NB265_258.out; have hnc61 := NB258_265.out; have hnb62 := NB265_261.out; have hnc62 := NB261_265.out; have hnb63 := NB265_262.out; have hnc63 := NB262_265.out; have hnb64 := NB265_263.out; have hnc64 := NB263_265.out; have hcz65_0 : w59.cell? ⟨gb265, 0, none⟩ = some (.int .i64 0) := (blk_cell BK265.out 0).trans rfl; have hcz65_1 : w59.cell? ⟨gb265, 1, none⟩ = some (.int .i64 0) := (blk_cell BK265.out 1).trans rfl; have hcz65_2 : w59.cell? ⟨gb265, 2, none⟩ = some (.int .i64 0) := (blk_cell BK265.out 2).trans rfl; have hcz65_3 : w59.cell? ⟨gb265, 3, none⟩ = some (.int .i64 0) := (blk_cell BK265.out 3).trans rfl; have hfz65_0 := blk_frozen BK265.out 0; have hfz65_1 := blk_frozen BK265.out 1; have hfz65_2 := blk_frozen BK265.out 2; have hfz65_3 := blk_frozen BK265.out 3))
     have n0_ : Aside0 (Kd.R k56 56 ((((w59.setCell ⟨gb265, 0, none⟩ (.int .i64 ((rd_T53 l1 x58_2).f0))).setCell ⟨gb265, 1, none⟩ (.int .i64 ((rd_T53 l1 x58_2).f1))).setCell ⟨gb265, 2, none⟩ (.int .i64 ((rd_T53 l1 x58_2).f2))).setCell ⟨gb265, 3, none⟩ (.int .i64 ((rd_T53 l1 x58_2).f3))) w.heap.size (fun _ => True) u264005 x264005_2) := ⟨by (with_reducible repeat (first | apply Kd.R_alloc | apply Kd.R_drewN | apply Kd.R_drew)); exact Kd.R_mono (Kd.R_far (p := ⟨gb265, 3, none⟩) (Kd.R_far (p := ⟨gb265, 2, none⟩) (Kd.R_far (p := ⟨gb265, 1, none⟩) (Kd.R_far (p := ⟨gb265, 0, none⟩) (Kd.R_types HO_264005.out BK265.out (by decide)) (fun _ hk => hk.2) (.int .i64 ((rd_T53 l1 x58_2).f0))) (fun _ hk => hk.2) (.int .i64 ((rd_T53 l1 x58_2).f1))) (fun _ hk => hk.2) (.int .i64 ((rd_T53 l1 x58_2).f2))) (fun _ hk => hk.2) (.int .i64 ((rd_T53 l1 x58_2).f3))) (fun _ hk => trivial)⟩
     have n1_ : Aside0 (((((w59.setCell ⟨gb265, 0, none⟩ (.int .i64 ((rd_T53 l1 x58_2).f0))).setCell ⟨gb265, 1, none⟩ (.int .i64 ((rd_T53 l1 x58_2).f1))).setCell ⟨gb265, 2, none⟩ (.int .i64 ((rd_T53 l1 x58_2).f2))).setCell ⟨gb265, 3, none⟩ (.int .i64 ((rd_T53 l1 x58_2).f3))).heap[gb257]? = some (.cells #[.slice A0_0 l0_0.length c0_0, .slice A0_1 l0_1.length c0_1] 62 (0, 0))) := ⟨by refine bkUp ?_; refine blk_far ?_ NB257_265.out _; refine bkUp ?_; refine blk_far ?_ NB257_265.out _; refine bkUp ?_; refine blk_far ?_ NB257_265.out _; refine bkUp ?_; refine blk_far ?_ NB257_265.out _; exact bkUp BK257.out⟩
     have n2_ : Aside0 (((((w59.setCell ⟨gb265, 0, none⟩ (.int .i64 ((rd_T53 l1 x58_2).f0))).setCell ⟨gb265, 1, none⟩ (.int .i64 ((rd_T53 l1 x58_2).f1))).setCell ⟨gb265, 2, none⟩ (.int .i64 ((rd_T53 l1 x58_2).f2))).setCell ⟨gb265, 3, none⟩ (.int .i64 ((rd_T53 l1 x58_2).f3))).heap[gb258]? = some (.cells #[.int .i64 0, .int .i64 0, .int .i64 0, .int .i64 0, .string (⟨#[]⟩ : ByteArray), .slice none 0 0] 41 (0, 0))) := ⟨by refine bkUp ?_; refine blk_far ?_ NB258_265.out _; refine bkUp ?_; refine blk_far ?_ NB258_265.out _; refine bkUp ?_; refine blk_far ?_ NB258_265.out _; refine bkUp ?_; refine blk_far ?_ NB258_265.out _; exact bkUp BK258.out⟩
     have n3_ : Aside0 (((((w59.setCell ⟨gb265, 0, none⟩ (.int .i64 ((rd_T53 l1 x58_2).f0))).setCell ⟨gb265, 1, none⟩ (.int .i64 ((rd_T53 l1 x58_2).f1))).setCell ⟨gb265, 2, none⟩ (.int .i64 ((rd_T53 l1 x58_2).f2))).setCell ⟨gb265, 3, none⟩ (.int .i64 ((rd_T53 l1 x58_2).f3))).heap[gb261]? = some (.cells #[.int .i64 ((rd_T53 l1 0).f0), .int .i64 ((rd_T53 l1 0).f1), .int .i64 ((rd_T53 l1 0).f2), .int .i64 ((rd_T53 l1 0).f3)] 53 (0, 0))) := ⟨by refine bkUp ?_; refine blk_far ?_ NB261_265.out _; refine bkUp ?_; refine blk_far ?_ NB261_265.out _; refine bkUp ?_; refine blk_far ?_ NB261_265.out _; refine bkUp ?_; refine blk_far ?_ NB261_265.out _; exact bkUp BK261.out⟩
     have n4_ : Aside0 (((((w59.setCell ⟨gb265, 0, none⟩ (.int .i64 ((rd_T53 l1 x58_2).f0))).setCell ⟨gb265, 1, none⟩ (.int .i64 ((rd_T53 l1 x58_2).f1))).setCell ⟨gb265, 2, none⟩ (.int .i64 ((rd_T53 l1 x58_2).f2))).setCell ⟨gb265, 3, none⟩ (.int .i64 ((rd_T53 l1 x58_2).f3))).heap[gb262]? = some (.cells #[.int .i64 ((rd_T53 l1 (ji5)).f0), .int .i64 ((rd_T53 l1 (ji5)).f1), .int .i64 ((rd_T53 l1 (ji5)).f2), .int .i64 ((rd_T53 l1 (ji5)).f3)] 53 (0, 0))) := ⟨by refine bkUp ?_; refine blk_far ?_ NB262_265.out _; refine bkUp ?_; refine blk_far ?_ NB262_265.out _; refine bkUp ?_; refine blk_far ?_ NB262_265.out _; refine bkUp ?_; refine blk_far ?_ NB262_265.out _; exact bkUp BK262.out⟩
     have n5_ : Aside0 (((((w59.setCell ⟨gb265, 0, none⟩ (.int .i64 ((rd_T53 l1 x58_2).f0))).setCell ⟨gb265, 1, none⟩ (.int .i64 ((rd_T53 l1 x58_2).f1))).setCell ⟨gb265, 2, none⟩ (.int .i64 ((rd_T53 l1 x58_2).f2))).setCell ⟨gb265, 3, none⟩ (.int .i64 ((rd_T53 l1 x58_2).f3))).heap[gb263]? = some (.cells #[.int .i64 ji8, .int .i64 0, .int .i64 (wrap64 (((rd_T53 l1 0).f2) - (wrap64 (((rd_T53 l1 0).f0) - ji8)))), .int .i64 x264003_2, .string (⟨#[]⟩ : ByteArray), u264005] 41 (0, 0))) := ⟨by refine bkUp ?_; refine blk_far ?_ NB263_265.out _; refine bkUp ?_; refine blk_far ?_ NB263_265.out _; refine bkUp ?_; refine blk_far ?_ NB263_265.out _; refine bkUp ?_; refine blk_far ?_ NB263_265.out _; exact bkUp BK263.out⟩
     have n6_ : Aside0 (((((w59.setCell ⟨gb265, 0, none⟩ (.int .i64 ((rd_T53 l1 x58_2).f0))).setCell ⟨gb265, 1, none⟩ (.int .i64 ((rd_T53 l1 x58_2).f1))).setCell ⟨gb265, 2, none⟩ (.int .i64 ((rd_T53 l1 x58_2).f2))).setCell ⟨gb265, 3, none⟩ (.int .i64 ((rd_T53 l1 x58_2).f3))).heap[gb265]? = some (.cells #[.int .i64 ((rd_T53 l1 x58_2).f0), .int .i64 ((rd_T53 l1 x58_2).f1), .int .i64 ((rd_T53 l1 x58_2).f2), .int .i64 ((rd_T53 l1 x58_2).f3)] 53 (0, 0))) := ⟨by refine bkUp ?_; refine blk_put (cs := #[.int .i64 ((rd_T53 l1 x58_2).f0), .int .i64 ((rd_T53 l1 x58_2).f1), .int .i64 ((rd_T53 l1 x58_2).f2), .int .i64 0]) ?_ 3 _ rfl; refine bkUp ?_; refine blk_put (cs := #[.int .i64 ((rd_T53 l1 x58_2).f0), .int .i64 ((rd_T53 l1 x58_2).f1), .int .i64 0, .int .i64 0]) ?_ 2 _ rfl; refine bkUp ?_; refine blk_put (cs := #[.int .i64 ((rd_T53 l1 x58_2).f0), .int .i64 0, .int .i64 0, .int .i64 0]) ?_ 1 _ rfl; refine bkUp ?_; refine blk_put (cs := #[.int .i64 0, .int .i64 0, .int .i64 0, .int .i64 0]) ?_ 0 _ rfl; exact bkUp BK265.out⟩
     have n7_ : Aside0 (Below w.heap.size w ((((w59.setCell ⟨gb265, 0, none⟩ (.int .i64 ((rd_T53 l1 x58_2).f0))).setCell ⟨gb265, 1, none⟩ (.int .i64 ((rd_T53 l1 x58_2).f1))).setCell ⟨gb265, 2, none⟩ (.int .i64 ((rd_T53 l1 x58_2).f2))).setCell ⟨gb265, 3, none⟩ (.int .i64 ((rd_T53 l1 x58_2).f3)))) := ⟨belPut⟩
     (try clear HO_264005)
     (try clear BK257)
     (try clear BK258)
     (try clear BK261)
     (try clear BK262)
     (try clear BK263)
     (try clear BK265)
     (try clear HB)
     generalize ((((w59.setCell ⟨gb265, 0, none⟩ (.int .i64 ((rd_T53 l1 x58_2).f0))).setCell ⟨gb265, 1, none⟩ (.int .i64 ((rd_T53 l1 x58_2).f1))).setCell ⟨gb265, 2, none⟩ (.int .i64 ((rd_T53 l1 x58_2).f2))).setCell ⟨gb265, 3, none⟩ (.int .i64 ((rd_T53 l1 x58_2).f3))) = w66 at n0_ n1_ n2_ n3_ n4_ n5_ n6_ n7_ ⊢
     have HO_264005 := n0_
     have BK257 := n1_
     have BK258 := n2_
     have BK261 := n3_
     have BK262 := n4_
     have BK263 := n5_
     have BK265 := n6_
     have HB := n7_
     clear n0_ n1_ n2_ n3_ n4_ n5_ n6_ n7_
     have n0_ := Aside0.mk (Kd.R_drew HO_264005.out)
     have n1_ := Aside0.mk (blk_drew BK257.out)
     have n2_ := Aside0.mk (blk_drew BK258.out)
     have n3_ := Aside0.mk (blk_drew BK261.out)
     have n4_ := Aside0.mk (blk_drew BK262.out)
     have n5_ := Aside0.mk (blk_drew BK263.out)
     have n6_ := Aside0.mk (blk_drew BK265.out)
     have n7_ := Aside0.mk (below_drew1 HB.out)
     clear HO_264005 BK257
     clear BK258 BK261
     clear BK262 BK263
     clear BK265 HB
     have HO_264005 := n0_
     have BK257 := n1_
     have BK258 := n2_
     have BK261 := n3_
     have BK262 := n4_
     have BK263 := n5_
     have BK265 := n6_
     have HB := n7_
     clear n0_ n1_ n2_ n3_ n4_ n5_ n6_ n7_
     obtain ⟨i068, hi068, _, hsz68, _⟩ := info_parts info9
     obtain ⟨A68, hcut68, hA68, hC68⟩ := print_mid_of (P := Tryd.prog) Value.string (⟨#[]⟩ : ByteArray) 23 9 .i64 .i64 Tryd.underlying23 hi068 hsz68 A0_0 c0_0 l0_0 x13_2 ((rd_T53 l1 x58_2).f0) (ofDec) (by first | omega | exact ofDec) (ofDec) HC0_0.out
     have HR266 := Aside0.mk (Kd.C_of_reads (h1 := fun _ => rfl) (hA68 _ (Kd.reads_of_C HR0_0.out)))
     have HC266 := Aside0.mk hC68
     clear hA68 hC68 hi068 hsz68
     obtain ⟨Ao69, co69, eo69⟩ := Kd.R_slice HO_264005.out
     (first | subst eo69 | (injection eo69 with f1_ f2_ f3_; have f4_ := f1_.symm; have f5_ := f3_.symm; clear f1_ f2_ f3_; subst f4_; subst f5_))
     refine start_ (n := 11) (S := fun w' => w'.cell? ⟨gb263, 0, none⟩ = some (.int .i64 ji8) ∧ w'.cell? ⟨gb263, 1, none⟩ = some (.int .i64 0) ∧ w'.cell? ⟨gb263, 2, none⟩ = some (.int .i64 (wrap64 (((rd_T53 l1 0).f2) - (wrap64 (((rd_T53 l1 0).f0) - ji8))))) ∧ w'.cell? ⟨gb263, 3, none⟩ = some (.int .i64 x264003_2) ∧ w'.cell? ⟨gb263, 4, none⟩ = some (.string (⟨#[]⟩ : ByteArray)) ∧ w'.cell? ⟨gb263, 5, none⟩ = some (.slice Ao69 x264005_2.length co69) ∧ w'.cell? ⟨gb257, 0, none⟩ = some (.slice A0_0 l0_0.length c0_0) ∧ w'.cell? ⟨gb257, 1, none⟩ = some (.slice A0_1 l0_1.length c0_1) ∧ w'.cell? ⟨gb265, 0, none⟩ = some (.int .i64 ((rd_T53 l1 x58_2).f0)) ∧ w'.cell? ⟨gb265, 1, none⟩ = some (.int .i64 ((rd_T53 l1 x58_2).f1)) ∧ w'.cell? ⟨gb265, 2, none⟩ = some (.int .i64 ((rd_T53 l1 x58_2).f2)) ∧ w'.cell? ⟨gb265, 3, none⟩ = some (.int .i64 ((rd_T53 l1 x58_2).f3))) (ds := [10]) (Array.replicate 11 false) (by kernel_rfl) rfl rfl ⟨bc BK263 0, bc BK263 1, bc BK263 2, bc BK263 3, bc BK263 4, bc BK263 5, bc BK257 0, bc BK257 1, bc BK265 0, bc BK265 1, bc BK265 2, bc BK265 3⟩ (fun hHeld => ?_); refine with_tabW hunks_builder_hunk.tab12 hunks_builder_hunk.bits12 (fun HT_ HW_ => ?_)
     generalize w66.drew = w67 at HO_264005 BK257 BK258 BK261 BK262 BK263 BK265 HB HR266 hHeld ⊢
     refine pureT 0 ?_
     refine pureT 2 ?_
     refine pureT 4 ?_
     refine pureT 5 ?_
     refine takeT 1 hHeld ?_
     refine takeT 3 hHeld ?_
     refine takeT 6 hHeld ?_
     refine pureT 7 ?_
     refine oneT (N := some 70) 8 (fun K hK => ?_)
     refine goes_ Tryd.func40 (by kernel_rfl) rfl #[.slice Ao69 x264005_2.length co69, .int .i64 1, .slice A68 ((l0_0.take (((rd_T53 l1 x58_2).f0) : Int).toNat).drop (x13_2 : Int).toNat).length (c0_0 - x13_2.toNat)] (by rfl) rfl rfl (by (try simp only [List.map_toArray, List.map_cons, List.map_nil]); first | done | (rw [show ((l0_0.take (((rd_T53 l1 x58_2).f0) : Int).toNat).drop (x13_2 : Int).toNat).length = (((rd_T53 l1 x58_2).f0).toNat - x13_2.toNat) from (by rw [List.length_drop, List.length_take]; have h_ : (((rd_T53 l1 x58_2).f0) : Int) ≤ (l0_0.length : Int) := ofDec; omega)] <;> rfl) | rfl | (simp only [List.length_drop, List.length_take]; rfl)) ?_
     with_reducible refine (hunks_rows.calls k2 (fun k_ => some k_ = (.slice Ao69 x264005_2.length co69 : Value).ownBlock) (.slice Ao69 x264005_2.length co69) x264005_2 1 _ _ ((l0_0.take (((rd_T53 l1 x58_2).f0) : Int).toNat).drop (x13_2 : Int).toNat) t267 w _ ?side1 ?side2 ?side3 ?side4 A50.out).mono ?_
     (case side1 => repeat (first | (with_reducible first | exact HB.out | apply below_alloc | apply pw_below_drewN | apply below_drew1 | refine below_set ?_ GE257.out | refine below_set ?_ GE258.out | refine below_set ?_ GE261.out | refine below_set ?_ GE262.out | refine below_set ?_ GE263.out | refine below_set ?_ GE265.out) | exact HB.out))
     (case side2 => exact Kd.R_tight rfl HO_264005.out)
     (case side3 => exact Kd.C_kept_came Kd.heap_string HR266.out (belPut) (fun k_ hs_ => (fun e_ => Kd.R_base HO_264005.out k_ e_.symm) hs_))
     (case side4 => exact HC266.out)
     rintro e w70 ⟨v268, rfl, ho0, hb, hkp⟩
     refine ⟨_, rfl, ?_⟩
     have n0_ := Aside0.mk (blk_kept (bkUp BK257.out) hkp (fun hs_ => (fun e_ => (Kd.R_ne HO_264005.out BK257.out (by decide)) e_) hs_))
     have n1_ := Aside0.mk (blk_kept (bkUp BK258.out) hkp (fun hs_ => (fun e_ => (Kd.R_ne HO_264005.out BK258.out (by decide)) e_) hs_))
     have n2_ := Aside0.mk (blk_kept (bkUp BK261.out) hkp (fun hs_ => (fun e_ => (Kd.R_ne HO_264005.out BK261.out (by decide)) e_) hs_))
     have n3_ := Aside0.mk (blk_kept (bkUp BK262.out) hkp (fun hs_ => (fun e_ => (Kd.R_ne HO_264005.out BK262.out (by decide)) e_) hs_))
     have n4_ := Aside0.mk (blk_kept (bkUp BK263.out) hkp (fun hs_ => (fun e_ => (Kd.R_ne HO_264005.out BK263.out (by decide)) e_) hs_))
     have n5_ := Aside0.mk (blk_kept (bkUp BK265.out) hkp (fun hs_ => (fun e_ => (Kd.R_ne HO_264005.out BK265.out (by decide)) e_) hs_))
     have n6_ := Aside0.mk (Kd.R_mono (ok' := fun k_ => True) ho0 (fun k_ hk_ => trivial))
     have n7_ := Aside0.mk (hb)
     clear BK257 BK258
     clear BK261 BK262
     clear BK263 BK265
     clear HB HO_264005
     have BK257 := n0_
     have BK258 := n1_
     have BK261 := n2_
     have BK262 := n3_
     have BK263 := n4_
     have BK265 := n5_
     have HO269 := n6_
     have HB := n7_
     clear n0_ n1_ n2_ n3_ n4_ n5_ n6_ n7_
     (try clear hb)
     (try clear hkp)
     (try clear ho0)
     obtain ⟨Ao71, co71, eo71⟩ := Kd.R_slice HO269.out
     (first | subst eo71 | (injection eo71 with f1_ f2_ f3_; have f4_ := f1_.symm; have f5_ := f3_.symm; clear f1_ f2_ f3_; subst f4_; subst f5_))
     refine hK.out _ _ ⟨bc BK263 0, bc BK263 1, bc BK263 2, bc BK263 3, bc BK263 4, bc BK263 5, bc BK257 0, bc BK257 1, bc BK265 0, bc BK265 1, bc BK265 2, bc BK265 3⟩ (fun hHeld => ?_)
     clear hK K
     refine putT ?_
     refine pureT 9 ?_
     refine last_ (i := 10) (N := none) #[true, true, true, true, true, true, true, true, true, true, true] rfl rfl (one_of HT_.out (by kernel_rfl)) (by decide) (fun K hK => ?_)
     have hs72 : w70.cell? ⟨gb263, 5, none⟩ = some (.slice Ao69 x264005_2.length co69) := (blk_cell BK263.out 5).trans rfl
     have hfs72 := blk_frozen BK263.out 5
     have hns72_0 := NB257_263.out
     have hns72_1 := NB258_263.out
     have hns72_2 := NB261_263.out
     have hns72_3 := NB262_263.out
     have hns72_5 := NB265_263.out
     have hms72_0 := NB263_257.out
     have hms72_1 := NB263_258.out
     have hms72_2 := NB263_261.out
     have hms72_3 := NB263_262.out
     have hms72_5 := NB263_265.out
     refine skip_ (w1 := ?_) (by rfl) rfl ?_ ?_
     rotate_left
     ·go_simp
      rfl
     refine hK.out _ _ ?_
     clear hK K
     refine done_ (done_of HT_.out (by kernel_rfl)) ?_
     try go_wp2
     have n0_ : Aside0 (Kd.R k56 56 (w70.setCell ⟨gb263, 5, none⟩ (.slice Ao71 t267.length co71)) w.heap.size (fun _ => True) (.slice Ao71 t267.length co71) t267) := ⟨by (with_reducible repeat (first | apply Kd.R_alloc | apply Kd.R_drewN | apply Kd.R_drew)); exact Kd.R_mono (Kd.R_far (p := ⟨gb263, 5, none⟩) (Kd.R_types HO269.out BK263.out (by decide)) (fun _ hk => hk.2) (.slice Ao71 t267.length co71)) (fun _ hk => trivial)⟩
     have n1_ : Aside0 ((w70.setCell ⟨gb263, 5, none⟩ (.slice Ao71 t267.length co71)).heap[gb257]? = some (.cells #[.slice A0_0 l0_0.length c0_0, .slice A0_1 l0_1.length c0_1] 62 (0, 0))) := ⟨by refine bkUp ?_; refine blk_far ?_ NB257_263.out _; exact bkUp BK257.out⟩
     have n2_ : Aside0 ((w70.setCell ⟨gb263, 5, none⟩ (.slice Ao71 t267.length co71)).heap[gb258]? = some (.cells #[.int .i64 0, .int .i64 0, .int .i64 0, .int .i64 0, .string (⟨#[]⟩ : ByteArray), .slice none 0 0] 41 (0, 0))) := ⟨by refine bkUp ?_; refine blk_far ?_ NB258_263.out _; exact bkUp BK258.out⟩
     have n3_ : Aside0 ((w70.setCell ⟨gb263, 5, none⟩ (.slice Ao71 t267.length co71)).heap[gb261]? = some (.cells #[.int .i64 ((rd_T53 l1 0).f0), .int .i64 ((rd_T53 l1 0).f1), .int .i64 ((rd_T53 l1 0).f2), .int .i64 ((rd_T53 l1 0).f3)] 53 (0, 0))) := ⟨by refine bkUp ?_; refine blk_far ?_ NB261_263.out _; exact bkUp BK261.out⟩
     have n4_ : Aside0 ((w70.setCell ⟨gb263, 5, none⟩ (.slice Ao71 t267.length co71)).heap[gb262]? = some (.cells #[.int .i64 ((rd_T53 l1 (ji5)).f0), .int .i64 ((rd_T53 l1 (ji5)).f1), .int .i64 ((rd_T53 l1 (ji5)).f2), .int .i64 ((rd_T53 l1 (ji5)).f3)] 53 (0, 0))) := ⟨by refine bkUp ?_; refine blk_far ?_ NB262_263.out _; exact bkUp BK262.out⟩
     have n5_ : Aside0 ((w70.setCell ⟨gb263, 5, none⟩ (.slice Ao71 t267.length co71)).heap[gb263]? = some (.cells #[.int .i64 ji8, .int .i64 0, .int .i64 (wrap64 (((rd_T53 l1 0).f2) - (wrap64 (((rd_T53 l1 0).f0) - ji8)))), .int .i64 x264003_2, .string (⟨#[]⟩ : ByteArray), .slice Ao71 t267.length co71] 41 (0, 0))) := ⟨by refine bkUp ?_; refine blk_put (cs := #[.int .i64 ji8, .int .i64 0, .int .i64 (wrap64 (((rd_T53 l1 0).f2) - (wrap64 (((rd_T53 l1 0).f0) - ji8)))), .int .i64 x264003_2, .string (⟨#[]⟩ : ByteArray), .slice Ao69 x264005_2.length co69]) ?_ 5 _ rfl; exact bkUp BK263.out⟩
     have n6_ : Aside0 ((w70.setCell ⟨gb263, 5, none⟩ (.slice Ao71 t267.length co71)).heap[gb265]? = some (.cells #[.int .i64 ((rd_T53 l1 x58_2).f0), .int .i64 ((rd_T53 l1 x58_2).f1), .int .i64 ((rd_T53 l1 x58_2).f2), .int .i64 ((rd_T53 l1 x58_2).f3)] 53 (0, 0))) := ⟨by refine bkUp ?_; refine blk_far ?_ NB265_263.out _; exact bkUp BK265.out⟩
     have n7_ : Aside0 (Below w.heap.size w (w70.setCell ⟨gb263, 5, none⟩ (.slice Ao71 t267.length co71))) := ⟨belPut⟩
     (try clear HO269)
     (try clear BK257)
     (try clear BK258)
     (try clear BK261)
     (try clear BK262)
     (try clear BK263)
     (try clear BK265)
     (try clear HB)
     generalize (w70.setCell ⟨gb263, 5, none⟩ (.slice Ao71 t267.length co71)) = w73 at n0_ n1_ n2_ n3_ n4_ n5_ n6_ n7_ ⊢
     have HO269 := n0_
     have BK257 := n1_
     have BK258 := n2_
     have BK261 := n3_
     have BK262 := n4_
     have BK263 := n5_
     have BK265 := n6_
     have HB := n7_
     clear n0_ n1_ n2_ n3_ n4_ n5_ n6_ n7_
     have n0_ := Aside0.mk (Kd.R_drew HO269.out)
     have n1_ := Aside0.mk (blk_drew BK257.out)
     have n2_ := Aside0.mk (blk_drew BK258.out)
     have n3_ := Aside0.mk (blk_drew BK261.out)
     have n4_ := Aside0.mk (blk_drew BK262.out)
     have n5_ := Aside0.mk (blk_drew BK263.out)
     have n6_ := Aside0.mk (blk_drew BK265.out)
     have n7_ := Aside0.mk (below_drew1 HB.out)
     clear HO269 BK257
     clear BK258 BK261
     clear BK262 BK263
     clear BK265 HB
     have HO269 := n0_
     have BK257 := n1_
     have BK258 := n2_
     have BK261 := n3_
     have BK262 := n4_
     have BK263 := n5_
     have BK265 := n6_
     have HB := n7_
     clear n0_ n1_ n2_ n3_ n4_ n5_ n6_ n7_
     obtain ⟨i075, hi075, _, hsz75, _⟩ := info_parts info9
     obtain ⟨A75, hcut75, hA75, hC75⟩ := print_mid_of (P := Tryd.prog) Value.string (⟨#[]⟩ : ByteArray) 23 9 .i64 .i64 Tryd.underlying23 hi075 hsz75 A0_0 c0_0 l0_0 ((rd_T53 l1 x58_2).f0) (wrap64 (((rd_T53 l1 x58_2).f0) + ((rd_T53 l1 x58_2).f1))) (ofDec) (by first | omega | exact ofDec) (ofDec) HC0_0.out
     have HR270 := Aside0.mk (Kd.C_of_reads (h1 := fun _ => rfl) (hA75 _ (Kd.reads_of_C HR0_0.out)))
     have HC270 := Aside0.mk hC75
     clear hA75 hC75 hi075 hsz75
     refine start_ (n := 15) (S := fun w' => w'.cell? ⟨gb263, 0, none⟩ = some (.int .i64 ji8) ∧ w'.cell? ⟨gb263, 1, none⟩ = some (.int .i64 0) ∧ w'.cell? ⟨gb263, 2, none⟩ = some (.int .i64 (wrap64 (((rd_T53 l1 0).f2) - (wrap64 (((rd_T53 l1 0).f0) - ji8))))) ∧ w'.cell? ⟨gb263, 3, none⟩ = some (.int .i64 x264003_2) ∧ w'.cell? ⟨gb263, 4, none⟩ = some (.string (⟨#[]⟩ : ByteArray)) ∧ w'.cell? ⟨gb263, 5, none⟩ = some (.slice Ao71 t267.length co71) ∧ w'.cell? ⟨gb257, 0, none⟩ = some (.slice A0_0 l0_0.length c0_0) ∧ w'.cell? ⟨gb257, 1, none⟩ = some (.slice A0_1 l0_1.length c0_1) ∧ w'.cell? ⟨gb265, 0, none⟩ = some (.int .i64 ((rd_T53 l1 x58_2).f0)) ∧ w'.cell? ⟨gb265, 1, none⟩ = some (.int .i64 ((rd_T53 l1 x58_2).f1)) ∧ w'.cell? ⟨gb265, 2, none⟩ = some (.int .i64 ((rd_T53 l1 x58_2).f2)) ∧ w'.cell? ⟨gb265, 3, none⟩ = some (.int .i64 ((rd_T53 l1 x58_2).f3))) (ds := [14]) (Array.replicate 15 false) (by kernel_rfl) rfl rfl ⟨bc BK263 0, bc BK263 1, bc BK263 2, bc BK263 3, bc BK263 4, bc BK263 5, bc BK257 0, bc BK257 1, bc BK265 0, bc BK265 1, bc BK265 2, bc BK265 3⟩ (fun hHeld => ?_); refine with_tabW hunks_builder_hunk.tab13 hunks_builder_hunk.bits13 (fun HT_ HW_ => ?_)
     generalize w73.drew = w74 at HO269 BK257 BK258 BK261 BK262 BK263 BK265 HB HR270 hHeld ⊢
     refine pureT 0 ?_
     refine pureT 2 ?_
     refine pureT 4 ?_
     refine pureT 6 ?_
     refine pureT 8 ?_
     refine takeT 1 hHeld ?_
     refine takeT 3 hHeld ?_
     refine takeT 5 hHeld ?_
     refine takeT 7 hHeld ?_
     refine takeT 9 hHeld ?_
     refine pureT 10 ?_
     refine pureT 11 ?_
     refine oneT (N := some 84) 12 (fun K hK => ?_)
     refine goes_ Tryd.func40 (by kernel_rfl) rfl #[.slice Ao71 t267.length co71, .int .i64 2, .slice A75 ((l0_0.take ((wrap64 (((rd_T53 l1 x58_2).f0) + ((rd_T53 l1 x58_2).f1))) : Int).toNat).drop (((rd_T53 l1 x58_2).f0) : Int).toNat).length (c0_0 - ((rd_T53 l1 x58_2).f0).toNat)] (by rfl) rfl rfl (by (try simp only [List.map_toArray, List.map_cons, List.map_nil]); first | done | (rw [show ((l0_0.take ((wrap64 (((rd_T53 l1 x58_2).f0) + ((rd_T53 l1 x58_2).f1))) : Int).toNat).drop (((rd_T53 l1 x58_2).f0) : Int).toNat).length = ((wrap64 (((rd_T53 l1 x58_2).f0) + ((rd_T53 l1 x58_2).f1))).toNat - ((rd_T53 l1 x58_2).f0).toNat) from (by rw [List.length_drop, List.length_take]; have h_ : ((wrap64 (((rd_T53 l1 x58_2).f0) + ((rd_T53 l1 x58_2).f1))) : Int) ≤ (l0_0.length : Int) := ofDec; omega)] <;> rfl) | rfl | (simp only [List.length_drop, List.length_take]; rfl)) ?_
     with_reducible refine (hunks_rows.calls k2 (fun k_ => some k_ = (.slice Ao71 t267.length co71 : Value).ownBlock) (.slice Ao71 t267.length co71) t267 2 _ _ ((l0_0.take ((wrap64 (((rd_T53 l1 x58_2).f0) + ((rd_T53 l1 x58_2).f1))) : Int).toNat).drop (((rd_T53 l1 x58_2).f0) : Int).toNat) t271 w _ ?side1 ?side2 ?side3 ?side4 A54.out).mono ?_
     (case side1 => repeat (first | (with_reducible first | exact HB.out | apply below_alloc | apply pw_below_drewN | apply below_drew1 | refine below_set ?_ GE257.out | refine below_set ?_ GE258.out | refine below_set ?_ GE261.out | refine below_set ?_ GE262.out | refine below_set ?_ GE263.out | refine below_set ?_ GE265.out) | exact HB.out))
     (case side2 => exact Kd.R_tight rfl HO269.out)
     (case side3 => exact Kd.C_kept_came Kd.heap_string HR270.out (belPut) (fun k_ hs_ => (fun e_ => Kd.R_base HO269.out k_ e_.symm) hs_))
     (case side4 => exact HC270.out)
     rintro e w76 ⟨v272, rfl, ho0, hb, hkp⟩
     refine ⟨_, rfl, ?_⟩
     have n0_ := Aside0.mk (blk_kept (bkUp BK257.out) hkp (fun hs_ => (fun e_ => (Kd.R_ne HO269.out BK257.out (by decide)) e_) hs_))
     have n1_ := Aside0.mk (blk_kept (bkUp BK258.out) hkp (fun hs_ => (fun e_ => (Kd.R_ne HO269.out BK258.out (by decide)) e_) hs_))
     have n2_ := Aside0.mk (blk_kept (bkUp BK261.out) hkp (fun hs_ => (fun e_ => (Kd.R_ne HO269.out BK261.out (by decide)) e_) hs_))
     have n3_ := Aside0.mk (blk_kept (bkUp BK262.out) hkp (fun hs_ => (fun e_ => (Kd.R_ne HO269.out BK262.out (by decide)) e_) hs_))
     have n4_ := Aside0.mk (blk_kept (bkUp BK263.out) hkp (fun hs_ => (fun e_ => (Kd.R_ne HO269.out BK263.out (by decide)) e_) hs_))
     have n5_ := Aside0.mk (blk_kept (bkUp BK265.out) hkp (fun hs_ => (fun e_ => (Kd.R_ne HO269.out BK265.out (by decide)) e_) hs_))
     have n6_ := Aside0.mk (Kd.R_mono (ok' := fun k_ => True) ho0 (fun k_ hk_ => trivial))
     have n7_ := Aside0.mk (hb)
     clear BK257 BK258
     clear BK261 BK262
     clear BK263 BK265
     clear HB HO269
     have BK257 := n0_
     have BK258 := n1_
     have BK261 := n2_
     have BK262 := n3_
     have BK263 := n4_
     have BK265 := n5_
     have HO273 := n6_
     have HB := n7_
     clear n0_ n1_ n2_ n3_ n4_ n5_ n6_ n7_
     (try clear hb)
     (try clear hkp)
     (try clear ho0)
     obtain ⟨Ao77, co77, eo77⟩ := Kd.R_slice HO273.out
     (first | subst eo77 | (injection eo77 with f1_ f2_ f3_; have f4_ := f1_.symm; have f5_ := f3_.symm; clear f1_ f2_ f3_; subst f4_; subst f5_))
     refine hK.out _ _ ⟨bc BK263 0, bc BK263 1, bc BK263 2, bc BK263 3, bc BK263 4, bc BK263 5, bc BK257 0, bc BK257 1, bc BK265 0, bc BK265 1, bc BK265 2, bc BK265 3⟩ (fun hHeld => ?_)
     clear hK K
     refine putT ?_
     refine pureT 13 ?_
     refine last_ (i := 14) (N := none) #[true, true, true, true, true, true, true, true, true, true, true, true, true, true, true] rfl rfl (one_of HT_.out (by kernel_rfl)) (by decide) (fun K hK => ?_)
     have hs78 : w76.cell? ⟨gb263, 5, none⟩ = some (.slice Ao71 t267.length co71) := (blk_cell BK263.out 5).trans rfl
     have hfs78 := blk_frozen BK263.out 5
     have hns78_0 := NB257_263.out
     have hns78_1 := NB258_263.out
     have hns78_2 := NB261_263.out
     have hns78_3 := NB262_263.out
     have hns78_5 := NB265_263.out
     have hms78_0 := NB263_257.out
     have hms78_1 := NB263_258.out
     have hms78_2 := NB263_261.out
     have hms78_3 := NB263_262.out
     have hms78_5 := NB263_265.out
     refine skip_ (w1 := ?_) (by rfl) rfl ?_ ?_
     rotate_left
     ·go_simp
      rfl
     refine hK.out _ _ ?_
     clear hK K
     refine done_ (done_of HT_.out (by kernel_rfl)) ?_
     try go_wp2
     have n0_ : Aside0 (Kd.R k56 56 (w76.setCell ⟨gb263, 5, none⟩ (.slice Ao77 t271.length co77)) w.heap.size (fun _ => True) (.slice Ao77 t271.length co77) t271) := ⟨by (with_reducible repeat (first | apply Kd.R_alloc | apply Kd.R_drewN | apply Kd.R_drew)); exact Kd.R_mono (Kd.R_far (p := ⟨gb263, 5, none⟩) (Kd.R_types HO273.out BK263.out (by decide)) (fun _ hk => hk.2) (.slice Ao77 t271.length co77)) (fun _ hk => trivial)⟩
     have n1_ : Aside0 ((w76.setCell ⟨gb263, 5, none⟩ (.slice Ao77 t271.length co77)).heap[gb257]? = some (.cells #[.slice A0_0 l0_0.length c0_0, .slice A0_1 l0_1.length c0_1] 62 (0, 0))) := ⟨by refine bkUp ?_; refine blk_far ?_ NB257_263.out _; exact bkUp BK257.out⟩
     have n2_ : Aside0 ((w76.setCell ⟨gb263, 5, none⟩ (.slice Ao77 t271.length co77)).heap[gb258]? = some (.cells #[.int .i64 0, .int .i64 0, .int .i64 0, .int .i64 0, .string (⟨#[]⟩ : ByteArray), .slice none 0 0] 41 (0, 0))) := ⟨by refine bkUp ?_; refine blk_far ?_ NB258_263.out _; exact bkUp BK258.out⟩
     have n3_ : Aside0 ((w76.setCell ⟨gb263, 5, none⟩ (.slice Ao77 t271.length co77)).heap[gb261]? = some (.cells #[.int .i64 ((rd_T53 l1 0).f0), .int .i64 ((rd_T53 l1 0).f1), .int .i64 ((rd_T53 l1 0).f2), .int .i64 ((rd_T53 l1 0).f3)] 53 (0, 0))) := ⟨by refine bkUp ?_; refine blk_far ?_ NB261_263.out _; exact bkUp BK261.out⟩
     have n4_ : Aside0 ((w76.setCell ⟨gb263, 5, none⟩ (.slice Ao77 t271.length co77)).heap[gb262]? = some (.cells #[.int .i64 ((rd_T53 l1 (ji5)).f0), .int .i64 ((rd_T53 l1 (ji5)).f1), .int .i64 ((rd_T53 l1 (ji5)).f2), .int .i64 ((rd_T53 l1 (ji5)).f3)] 53 (0, 0))) := ⟨by refine bkUp ?_; refine blk_far ?_ NB262_263.out _; exact bkUp BK262.out⟩
     have n5_ : Aside0 ((w76.setCell ⟨gb263, 5, none⟩ (.slice Ao77 t271.length co77)).heap[gb263]? = some (.cells #[.int .i64 ji8, .int .i64 0, .int .i64 (wrap64 (((rd_T53 l1 0).f2) - (wrap64 (((rd_T53 l1 0).f0) - ji8)))), .int .i64 x264003_2, .string (⟨#[]⟩ : ByteArray), .slice Ao77 t271.length co77] 41 (0, 0))) := ⟨by refine bkUp ?_; refine blk_put (cs := #[.int .i64 ji8, .int .i64 0, .int .i64 (wrap64 (((rd_T53 l1 0).f2) - (wrap64 (((rd_T53 l1 0).f0) - ji8)))), .int .i64 x264003_2, .string (⟨#[]⟩ : ByteArray), .slice Ao71 t267.length co71]) ?_ 5 _ rfl; exact bkUp BK263.out⟩
     have n6_ : Aside0 ((w76.setCell ⟨gb263, 5, none⟩ (.slice Ao77 t271.length co77)).heap[gb265]? = some (.cells #[.int .i64 ((rd_T53 l1 x58_2).f0), .int .i64 ((rd_T53 l1 x58_2).f1), .int .i64 ((rd_T53 l1 x58_2).f2), .int .i64 ((rd_T53 l1 x58_2).f3)] 53 (0, 0))) := ⟨by refine bkUp ?_; refine blk_far ?_ NB265_263.out _; exact bkUp BK265.out⟩
     have n7_ : Aside0 (Below w.heap.size w (w76.setCell ⟨gb263, 5, none⟩ (.slice Ao77 t271.length co77))) := ⟨belPut⟩
     (try clear HO273)
     (try clear BK257)
     (try clear BK258)
     (try clear BK261)
     (try clear BK262)
     (try clear BK263)
     (try clear BK265)
     (try clear HB)
     generalize (w76.setCell ⟨gb263, 5, none⟩ (.slice Ao77 t271.length co77)) = w79 at n0_ n1_ n2_ n3_ n4_ n5_ n6_ n7_ ⊢
     have HO273 := n0_
     have BK257 := n1_
     have BK258 := n2_
     have BK261 := n3_
     have BK262 := n4_
     have BK263 := n5_
     have BK265 := n6_
     have HB := n7_
     clear n0_ n1_ n2_ n3_ n4_ n5_ n6_ n7_
     have n0_ := Aside0.mk (Kd.R_drew HO273.out)
     have n1_ := Aside0.mk (blk_drew BK257.out)
     have n2_ := Aside0.mk (blk_drew BK258.out)
     have n3_ := Aside0.mk (blk_drew BK261.out)
     have n4_ := Aside0.mk (blk_drew BK262.out)
     have n5_ := Aside0.mk (blk_drew BK263.out)
     have n6_ := Aside0.mk (blk_drew BK265.out)
     have n7_ := Aside0.mk (below_drew1 HB.out)
     clear HO273 BK257
     clear BK258 BK261
     clear BK262 BK263
     clear BK265 HB
     have HO273 := n0_
     have BK257 := n1_
     have BK258 := n2_
     have BK261 := n3_
     have BK262 := n4_
     have BK263 := n5_
     have BK265 := n6_
     have HB := n7_
     clear n0_ n1_ n2_ n3_ n4_ n5_ n6_ n7_
     obtain ⟨i081, hi081, _, hsz81, _⟩ := info_parts info9
     obtain ⟨A81, hcut81, hA81, hC81⟩ := print_mid_of (P := Tryd.prog) Value.string (⟨#[]⟩ : ByteArray) 23 9 .i64 .i64 Tryd.underlying23 hi081 hsz81 A0_1 c0_1 l0_1 ((rd_T53 l1 x58_2).f2) (wrap64 (((rd_T53 l1 x58_2).f2) + ((rd_T53 l1 x58_2).f3))) (ofDec) (by first | omega | exact ofDec) (ofDec) HC0_1.out
     have HR274 := Aside0.mk (Kd.C_of_reads (h1 := fun _ => rfl) (hA81 _ (Kd.reads_of_C HR0_1.out)))
     have HC274 := Aside0.mk hC81
     clear hA81 hC81 hi081 hsz81
     refine start_ (n := 15) (S := fun w' => w'.cell? ⟨gb263, 0, none⟩ = some (.int .i64 ji8) ∧ w'.cell? ⟨gb263, 1, none⟩ = some (.int .i64 0) ∧ w'.cell? ⟨gb263, 2, none⟩ = some (.int .i64 (wrap64 (((rd_T53 l1 0).f2) - (wrap64 (((rd_T53 l1 0).f0) - ji8))))) ∧ w'.cell? ⟨gb263, 3, none⟩ = some (.int .i64 x264003_2) ∧ w'.cell? ⟨gb263, 4, none⟩ = some (.string (⟨#[]⟩ : ByteArray)) ∧ w'.cell? ⟨gb263, 5, none⟩ = some (.slice Ao77 t271.length co77) ∧ w'.cell? ⟨gb257, 0, none⟩ = some (.slice A0_0 l0_0.length c0_0) ∧ w'.cell? ⟨gb257, 1, none⟩ = some (.slice A0_1 l0_1.length c0_1) ∧ w'.cell? ⟨gb265, 0, none⟩ = some (.int .i64 ((rd_T53 l1 x58_2).f0)) ∧ w'.cell? ⟨gb265, 1, none⟩ = some (.int .i64 ((rd_T53 l1 x58_2).f1)) ∧ w'.cell? ⟨gb265, 2, none⟩ = some (.int .i64 ((rd_T53 l1 x58_2).f2)) ∧ w'.cell? ⟨gb265, 3, none⟩ = some (.int .i64 ((rd_T53 l1 x58_2).f3))) (ds := [14]) (Array.replicate 15 false) (by kernel_rfl) rfl rfl ⟨bc BK263 0, bc BK263 1, bc BK263 2, bc BK263 3, bc BK263 4, bc BK263 5, bc BK257 0, bc BK257 1, bc BK265 0, bc BK265 1, bc BK265 2, bc BK265 3⟩ (fun hHeld => ?_); refine with_tabW hunks_builder_hunk.tab14 hunks_builder_hunk.bits14 (fun HT_ HW_ => ?_)
     generalize w79.drew = w80 at HO273 BK257 BK258 BK261 BK262 BK263 BK265 HB HR274 hHeld ⊢
     refine pureT 0 ?_
     refine pureT 2 ?_
     refine pureT 4 ?_
     refine pureT 6 ?_
     refine pureT 8 ?_
     refine takeT 1 hHeld ?_
     refine takeT 3 hHeld ?_
     refine takeT 5 hHeld ?_
     refine takeT 7 hHeld ?_
     refine takeT 9 hHeld ?_
     refine pureT 10 ?_
     refine pureT 11 ?_
     refine oneT (N := some 98) 12 (fun K hK => ?_)
     refine goes_ Tryd.func40 (by kernel_rfl) rfl #[.slice Ao77 t271.length co77, .int .i64 3, .slice A81 ((l0_1.take ((wrap64 (((rd_T53 l1 x58_2).f2) + ((rd_T53 l1 x58_2).f3))) : Int).toNat).drop (((rd_T53 l1 x58_2).f2) : Int).toNat).length (c0_1 - ((rd_T53 l1 x58_2).f2).toNat)] (by rfl) rfl rfl (by (try simp only [List.map_toArray, List.map_cons, List.map_nil]); first | done | (rw [show ((l0_1.take ((wrap64 (((rd_T53 l1 x58_2).f2) + ((rd_T53 l1 x58_2).f3))) : Int).toNat).drop (((rd_T53 l1 x58_2).f2) : Int).toNat).length = ((wrap64 (((rd_T53 l1 x58_2).f2) + ((rd_T53 l1 x58_2).f3))).toNat - ((rd_T53 l1 x58_2).f2).toNat) from (by rw [List.length_drop, List.length_take]; have h_ : ((wrap64 (((rd_T53 l1 x58_2).f2) + ((rd_T53 l1 x58_2).f3))) : Int) ≤ (l0_1.length : Int) := ofDec; omega)] <;> rfl) | rfl | (simp only [List.length_drop, List.length_take]; rfl)) ?_
     with_reducible refine (hunks_rows.calls k2 (fun k_ => some k_ = (.slice Ao77 t271.length co77 : Value).ownBlock) (.slice Ao77 t271.length co77) t271 3 _ _ ((l0_1.take ((wrap64 (((rd_T53 l1 x58_2).f2) + ((rd_T53 l1 x58_2).f3))) : Int).toNat).drop (((rd_T53 l1 x58_2).f2) : Int).toNat) t275 w _ ?side1 ?side2 ?side3 ?side4 A58.out).mono ?_
     (case side1 => repeat (first | (with_reducible first | exact HB.out | apply below_alloc | apply pw_below_drewN | apply below_drew1 | refine below_set ?_ GE257.out | refine below_set ?_ GE258.out | refine below_set ?_ GE261.out | refine below_set ?_ GE262.out | refine below_set ?_ GE263.out | refine below_set ?_ GE265.out) | exact HB.out))
     (case side2 => exact Kd.R_tight rfl HO273.out)
     (case side3 => exact Kd.C_kept_came Kd.heap_string HR274.out (belPut) (fun k_ hs_ => (fun e_ => Kd.R_base HO273.out k_ e_.symm) hs_))
     (case side4 => exact HC274.out)
     rintro e w82 ⟨v276, rfl, ho0, hb, hkp⟩
     refine ⟨_, rfl, ?_⟩
     have n0_ := Aside0.mk (blk_kept (bkUp BK257.out) hkp (fun hs_ => (fun e_ => (Kd.R_ne HO273.out BK257.out (by decide)) e_) hs_))
     have n1_ := Aside0.mk (blk_kept (bkUp BK258.out) hkp (fun hs_ => (fun e_ => (Kd.R_ne HO273.out BK258.out (by decide)) e_) hs_))
     have n2_ := Aside0.mk (blk_kept (bkUp BK261.out) hkp (fun hs_ => (fun e_ => (Kd.R_ne HO273.out BK261.out (by decide)) e_) hs_))
     have n3_ := Aside0.mk (blk_kept (bkUp BK262.out) hkp (fun hs_ => (fun e_ => (Kd.R_ne HO273.out BK262.out (by decide)) e_) hs_))
     have n4_ := Aside0.mk (blk_kept (bkUp BK263.out) hkp (fun hs_ => (fun e_ => (Kd.R_ne HO273.out BK263.out (by decide)) e_) hs_))
     have n5_ := Aside0.mk (blk_kept (bkUp BK265.out) hkp (fun hs_ => (fun e_ => (Kd.R_ne HO273.out BK265.out (by decide)) e_) hs_))
     have n6_ := Aside0.mk (Kd.R_mono (ok' := fun k_ => True) ho0 (fun k_ hk_ => trivial))
     have n7_ := Aside0.mk (hb)
     clear BK257 BK258
     clear BK261 BK262
     clear BK263 BK265
     clear HB HO273
     have BK257 := n0_
     have BK258 := n1_
     have BK261 := n2_
     have BK262 := n3_
     have BK263 := n4_
     have BK265 := n5_
     have HO277 := n6_
     have HB := n7_
     clear n0_ n1_ n2_ n3_ n4_ n5_ n6_ n7_
     (try clear hb)
     (try clear hkp)
     (try clear ho0)
     obtain ⟨Ao83, co83, eo83⟩ := Kd.R_slice HO277.out
     (first | subst eo83 | (injection eo83 with f1_ f2_ f3_; have f4_ := f1_.symm; have f5_ := f3_.symm; clear f1_ f2_ f3_; subst f4_; subst f5_))
     refine hK.out _ _ ⟨bc BK263 0, bc BK263 1, bc BK263 2, bc BK263 3, bc BK263 4, bc BK263 5, bc BK257 0, bc BK257 1, bc BK265 0, bc BK265 1, bc BK265 2, bc BK265 3⟩ (fun hHeld => ?_)
     clear hK K
     refine putT ?_
     refine pureT 13 ?_
     refine last_ (i := 14) (N := none) #[true, true, true, true, true, true, true, true, true, true, true, true, true, true, true] rfl rfl (one_of HT_.out (by kernel_rfl)) (by decide) (fun K hK => ?_)
     have hs84 : w82.cell? ⟨gb263, 5, none⟩ = some (.slice Ao77 t271.length co77) := (blk_cell BK263.out 5).trans rfl
     have hfs84 := blk_frozen BK263.out 5
     have hns84_0 := NB257_263.out
     have hns84_1 := NB258_263.out
     have hns84_2 := NB261_263.out
     have hns84_3 := NB262_263.out
     have hns84_5 := NB265_263.out
     have hms84_0 := NB263_257.out
     have hms84_1 := NB263_258.out
     have hms84_2 := NB263_261.out
     have hms84_3 := NB263_262.out
     have hms84_5 := NB263_265.out
     refine skip_ (w1 := ?_) (by rfl) rfl ?_ ?_
     rotate_left
     ·go_simp
      rfl
     refine hK.out _ _ ?_
     clear hK K
     refine done_ (done_of HT_.out (by kernel_rfl)) ?_
     have hcz85_0 := bkc (v := .int .i64 ((rd_T53 l1 x58_2).f0)) BK265.out 0 rfl
     have hcz85_1 := bkc (v := .int .i64 ((rd_T53 l1 x58_2).f1)) BK265.out 1 rfl
     have hcz85_2 := bkc (v := .int .i64 ((rd_T53 l1 x58_2).f2)) BK265.out 2 rfl
     have hcz85_3 := bkc (v := .int .i64 ((rd_T53 l1 x58_2).f3)) BK265.out 3 rfl
     have hfz85_0 := blk_frozen BK265.out 0
     have hfz85_1 := blk_frozen BK265.out 1
     have hfz85_2 := blk_frozen BK265.out 2
     have hfz85_3 := blk_frozen BK265.out 3
     have hnb86 := NB263_257.out
     have hnc86 := NB257_263.out
     have hnb87 := NB263_258.out
     have hnc87 := NB258_263.out
     have hnb88 := NB263_261.out
     have hnc88 := NB261_263.out
     have hnb89 := NB263_262.out
     have hnc89 := NB262_263.out
     have hcz90_0 := bkc (v := .int .i64 ji8) BK263.out 0 rfl
     have hcz90_1 := bkc (v := .int .i64 0) BK263.out 1 rfl
     have hcz90_2 := bkc (v := .int .i64 (wrap64 (((rd_T53 l1 0).f2) - (wrap64 (((rd_T53 l1 0).f0) - ji8))))) BK263.out 2 rfl
     have hcz90_3 := bkc (v := .int .i64 x264003_2) BK263.out 3 rfl
     have hcz90_4 := bkc (v := .string (⟨#[]⟩ : ByteArray)) BK263.out 4 rfl
     have hcz90_5 := bkc (v := .slice Ao77 t271.length co77) BK263.out 5 rfl
     have hfz90_0 := blk_frozen BK263.out 0
     have hfz90_1 := blk_frozen BK263.out 1
     have hfz90_2 := blk_frozen BK263.out 2
     have hfz90_3 := blk_frozen BK263.out 3
     have hfz90_4 := blk_frozen BK263.out 4
     have hfz90_5 := blk_frozen BK263.out 5
     try go_wp2
     go_roundg k2
     case measure => have := HJ8.out; have := HK2.out; omega
     case rel => exact ⟨(wrap64 (((rd_T53 l1 x58_2).f0) + ((rd_T53 l1 x58_2).f1))), (wrap64 (x58_2 + 1)), (wrap64 (x264003_2 + (wrap64 (((rd_T53 l1 x58_2).f3) - ((rd_T53 l1 x58_2).f1))))), (t275), (.slice Ao83 t275.length co83), eqNow, eqNow, H', ⟨by have := HJ8.out; have := HK2.out; omega⟩, ⟨by (with_reducible repeat (first | apply Kd.R_alloc | apply Kd.R_drewN | apply Kd.R_drew)); exact Kd.R_mono (Kd.R_far (p := ⟨gb263, 3, none⟩) (Kd.R_far (p := ⟨gb263, 5, none⟩) (Kd.R_types HO277.out BK263.out (by decide)) (fun _ hk => hk.2) (.slice Ao83 t275.length co83)) (fun _ hk => hk.2) (.int .i64 (wrap64 (x264003_2 + (wrap64 (((rd_T53 l1 x58_2).f3) - ((rd_T53 l1 x58_2).f1))))))) (fun _ hk => trivial)⟩, ⟨by refine bkUp ?_; refine blk_far ?_ NB257_263.out _; refine bkUp ?_; refine blk_far ?_ NB257_263.out _; exact bkUp BK257.out⟩, ⟨by refine bkUp ?_; refine blk_far ?_ NB258_263.out _; refine bkUp ?_; refine blk_far ?_ NB258_263.out _; exact bkUp BK258.out⟩, ⟨by refine bkUp ?_; refine blk_far ?_ NB261_263.out _; refine bkUp ?_; refine blk_far ?_ NB261_263.out _; exact bkUp BK261.out⟩, ⟨by refine bkUp ?_; refine blk_far ?_ NB262_263.out _; refine bkUp ?_; refine blk_far ?_ NB262_263.out _; exact bkUp BK262.out⟩, ⟨by refine bkUp ?_; refine blk_put (cs := #[.int .i64 ji8, .int .i64 0, .int .i64 (wrap64 (((rd_T53 l1 0).f2) - (wrap64 (((rd_T53 l1 0).f0) - ji8)))), .int .i64 x264003_2, .string (⟨#[]⟩ : ByteArray), .slice Ao83 t275.length co83]) ?_ 3 _ rfl; refine bkUp ?_; refine blk_put (cs := #[.int .i64 ji8, .int .i64 0, .int .i64 (wrap64 (((rd_T53 l1 0).f2) - (wrap64 (((rd_T53 l1 0).f0) - ji8)))), .int .i64 x264003_2, .string (⟨#[]⟩ : ByteArray), .slice Ao77 t271.length co77]) ?_ 5 _ rfl; exact bkUp BK263.out⟩, ⟨belPut⟩⟩
end Go.Proofs.YtecjoofjiockkaaDoor.Pp
