import Derived.Test.YtecjoofjiockkaaDoorESt
import Derived.Test.YtecjoofjiockkaaDoorPp0
import Derived.Test.YtecjoofjiockkaaDoorPp3
import Derived.Test.YtecjoofjiockkaaDoorPp11
import Derived.Test.YtecjoofjiockkaaDoorPp13
import Derived.Test.YtecjoofjiockkaaDoorPp15
import Derived.Test.YtecjoofjiockkaaDoorEPairs
set_option linter.unusedVariables false
set_option linter.unusedSimpArgs false
namespace Go.Proofs.YtecjoofjiockkaaDoor.Pp
open Go.RowKit Go.Proofs.YtecjoofjiockkaaDoor.Ext Go.Proofs.YtecjoofjiockkaaDoorW.PrintWords Go.Proofs.YtecjoofjiockkaaDoorW.PrintLast Go.Proofs.YtecjoofjiockkaaDoorW.PrintMore
attribute [local go_sem] max2_int min2_int max_two min_two max_three min_three max_four min_four
theorem putD (d : Tmp) {P : Program} {md : Region.Mode} {ops : Array Oper} {Q : Exit → Act → World → Prop} {S : World → Prop} {ds : List Nat} {fuel : Nat} {l : Array Bool} {a a' : Act} {v : Value} {w : World} (h : wpAnyLast P md ops Q S ds fuel l a' w)
 (ha : a.put (some d) v = a' := by simp only [Act.put, List.setIfInBounds_toArray, List.set_cons_zero, List.set_cons_succ, i64_w, i32_w]; rfl) : wpAnyLast P md ops Q S ds fuel l (a.put (some d) v) w := norm_ ha h
mutual
def hunks_Build.j0 : Nat → List (S53) → List ByteArray → List ByteArray → Int → Bool → Option ((List (S41)) × Option Int)
 | 0, _, _, _, _, _ => none
 | k + 1, x0, x1, x2, x3, x23 => if x23 = true then (some (([] : List (S41)), some 1)) else ((lines_Valid.f k x1).bind fun t282 => (if t282 = true then ((lines_Valid.f k x2).bind fun t283 => (hunks_Build.j1 k x0 x1 x2 x3 (!t283))) else (hunks_Build.j1 k x0 x1 x2 x3 true)))
def hunks_Build.j1 : Nat → List (S53) → List ByteArray → List ByteArray → Int → Bool → Option ((List (S41)) × Option Int)
 | 0, _, _, _, _, _ => none
 | k + 1, x0, x1, x2, x3, x32 => if x32 = true then (some (([] : List (S41)), some 3)) else ((edits_Normal.f k x0 (x1.length : Int) (x2.length : Int)).bind fun bt284 => (if bt284.2.isNone = true then ((edits_Pairs.f k bt284.1 (x1.length : Int) (x2.length : Int)).bind fun bt289 => (if bt289.2.isNone = true then (hunks_Build.l0 k bt284.1 x1 x2 x3 bt289.1 (bt289.1.length : Int) 0) else (some (([] : List (S41)), some (bt289.2.getD 0))))) else (some (([] : List (S41)), some (bt284.2.getD 0)))))
def hunks_Build.l0 : Nat → List (S53) → List ByteArray → List ByteArray → Int → List (S37) → Int → Int → Option ((List (S41)) × Option Int)
 | 0, _, _, _, _, _, _, _ => none
 | k + 1, x0, x1, x2, x3, x58, x59, x60 => if x60 < x59 then (if 0 ≤ x60 then (if x60 < (x58.length : Int) then (if 0 ≤ ((rd_T37 x58 x60).f0) then (if ((rd_T37 x58 x60).f0) < (x1.length : Int) then ((lines_Whole.f (rdOf ByteArray.empty x1 ((rd_T37 x58 x60).f0))).bind fun t297 => (if 0 ≤ ((rd_T37 x58 x60).f1) then (if ((rd_T37 x58 x60).f1) < (x2.length : Int) then ((lines_Whole.f (rdOf ByteArray.empty x2 ((rd_T37 x58 x60).f1))).bind fun t299 => (if (t297 != t299) = true then (some (([] : List (S41)), some 61)) else (hunks_Build.l0 k x0 x1 x2 x3 x58 x59 (wrap64 (x60 + 1))))) else (none)) else (none))) else (none)) else (none)) else (none)) else (none)) else (hunks_Build.l1 k x0 x3 ([] : List (S41)) 0 x1 x2)
def hunks_Build.l1 : Nat → List (S53) → Int → List (S41) → Int → List ByteArray → List ByteArray → Option ((List (S41)) × Option Int)
 | 0, _, _, _, _, _, _ => none
 | k + 1, x0, x3, x15, x16, x301000, x301001 => if x16 < (x0.length : Int) then (hunks_Build.l2 k x0 x3 x15 x16 (wrap64 (x16 + 1)) x301000 x301001) else (some (x15, none))
def hunks_Build.l2 : Nat → List (S53) → Int → List (S41) → Int → Int → List ByteArray → List ByteArray → Option ((List (S41)) × Option Int)
 | 0, _, _, _, _, _, _, _ => none
 | k + 1, x0, x3, x15, x16, x17, x301000, x301001 => if x17 < (x0.length : Int) then (if 0 ≤ x17 then (if 0 ≤ (wrap64 (x17 - 1)) then (if (wrap64 (x17 - 1)) < (x0.length : Int) then (if (wrap64 ((wrap64 (((rd_T53 x0 x17).f0) - ((rd_T53 x0 (wrap64 (x17 - 1))).f0))) - ((rd_T53 x0 (wrap64 (x17 - 1))).f1))) ≤ (wrap64 (2 * x3)) then (hunks_Build.l2 k x0 x3 x15 x16 (wrap64 (x17 + 1)) x301000 x301001) else (if 0 ≤ x16 then (if x16 ≤ x17 then (if x17 ≤ (x0.length : Int) then ((hunks_builder_hunk.f k x301000 x301001 ((x0.take (x17 : Int).toNat).drop (x16 : Int).toNat) x3).bind fun bt308 => (if x15.length < 1954687338268 then (hunks_Build.l1 k x0 x3 (x15 ++ [(⟨bt308.1, bt308.2.1, bt308.2.2.1, bt308.2.2.2.1, bt308.2.2.2.2.1, bt308.2.2.2.2.2⟩ : S41)]) x17 x301000 x301001) else (none))) else (none)) else (none)) else (none))) else (none)) else (none)) else (none)) else (if 0 ≤ x16 then (if x16 ≤ x17 then (if x17 ≤ (x0.length : Int) then ((hunks_builder_hunk.f k x301000 x301001 ((x0.take (x17 : Int).toNat).drop (x16 : Int).toNat) x3).bind fun bt323 => (if x15.length < 1954687338268 then (hunks_Build.l1 k x0 x3 (x15 ++ [(⟨bt323.1, bt323.2.1, bt323.2.2.1, bt323.2.2.2.1, bt323.2.2.2.2.1, bt323.2.2.2.2.2⟩ : S41)]) x17 x301000 x301001) else (none))) else (none)) else (none)) else (none))
end
def hunks_Build.f (k : Nat) (l0 : List (S53)) (l1 : List ByteArray) (l2 : List ByteArray) (a3 : Int) : Option ((List (S41)) × Option Int) := if a3 < 0 then (hunks_Build.j0 k l0 l1 l2 a3 true) else (hunks_Build.j0 k l0 l1 l2 a3 (decide (a3 > 2147483647)))
theorem hunks_Build.mono_l : ∀ k, (∀ y0 y1 y2 y3 y4, LeO (hunks_Build.j0 k y0 y1 y2 y3 y4) (hunks_Build.j0 (k + 1) y0 y1 y2 y3 y4)) ∧ (∀ y0 y1 y2 y3 y4, LeO (hunks_Build.j1 k y0 y1 y2 y3 y4) (hunks_Build.j1 (k + 1) y0 y1 y2 y3 y4)) ∧ (∀ y0 y1 y2 y3 y4 y5 y6, LeO (hunks_Build.l0 k y0 y1 y2 y3 y4 y5 y6) (hunks_Build.l0 (k + 1) y0 y1 y2 y3 y4 y5 y6)) ∧ (∀ y0 y1 y2 y3 y4 y5, LeO (hunks_Build.l1 k y0 y1 y2 y3 y4 y5) (hunks_Build.l1 (k + 1) y0 y1 y2 y3 y4 y5)) ∧ (∀ y0 y1 y2 y3 y4 y5 y6, LeO (hunks_Build.l2 k y0 y1 y2 y3 y4 y5 y6) (hunks_Build.l2 (k + 1) y0 y1 y2 y3 y4 y5 y6))
 | 0 => ⟨fun _ _ _ _ _ r h => by simp [hunks_Build.j0] at h, fun _ _ _ _ _ r h => by simp [hunks_Build.j1] at h, fun _ _ _ _ _ _ _ r h => by simp [hunks_Build.l0] at h, fun _ _ _ _ _ _ r h => by simp [hunks_Build.l1] at h, fun _ _ _ _ _ _ _ r h => by simp [hunks_Build.l2] at h⟩
 | k + 1 => by
  obtain ⟨ih0, ih1, ih2, ih3, ih4⟩ := hunks_Build.mono_l k
  refine ⟨?_, ?_, ?_, ?_, ?_⟩
  ·intro y0 y1 y2 y3 y4
   unfold hunks_Build.j0
   repeat' first
   | (with_reducible exact ih0 _ _ _ _ _)
   | (with_reducible exact ih1 _ _ _ _ _)
   | (with_reducible exact ih2 _ _ _ _ _ _ _)
   | (with_reducible exact ih3 _ _ _ _ _ _)
   | (with_reducible exact ih4 _ _ _ _ _ _ _)
   | (with_reducible exact edits_Normal.mono _ _ _ _)
   | (with_reducible exact edits_Pairs.mono _ _ _ _)
   | (with_reducible exact hunks_builder_hunk.mono _ _ _ _ _)
   | (with_reducible exact lines_Valid.mono _ _)
   | (with_reducible exact LeO.refl _)
   | (with_reducible exact LeO.none _)
   | (with_reducible refine LeO.ite ?_ ?_)
   | (with_reducible refine LeO.bind ?_ (fun _ => ?_))
   | exact ih0 _ _ _ _ _
   | exact ih1 _ _ _ _ _
   | exact ih2 _ _ _ _ _ _ _
   | exact ih3 _ _ _ _ _ _
   | exact ih4 _ _ _ _ _ _ _
   | exact edits_Normal.mono _ _ _ _
   | exact edits_Pairs.mono _ _ _ _
   | exact hunks_builder_hunk.mono _ _ _ _ _
   | exact lines_Valid.mono _ _
   | exact LeO.none _
   | refine LeO.ite ?_ ?_
   | refine LeO.bind ?_ (fun _ => ?_)
  ·intro y0 y1 y2 y3 y4
   unfold hunks_Build.j1
   repeat' first
   | (with_reducible exact ih0 _ _ _ _ _)
   | (with_reducible exact ih1 _ _ _ _ _)
   | (with_reducible exact ih2 _ _ _ _ _ _ _)
   | (with_reducible exact ih3 _ _ _ _ _ _)
   | (with_reducible exact ih4 _ _ _ _ _ _ _)
   | (with_reducible exact edits_Normal.mono _ _ _ _)
   | (with_reducible exact edits_Pairs.mono _ _ _ _)
   | (with_reducible exact hunks_builder_hunk.mono _ _ _ _ _)
   | (with_reducible exact lines_Valid.mono _ _)
   | (with_reducible exact LeO.refl _)
   | (with_reducible exact LeO.none _)
   | (with_reducible refine LeO.ite ?_ ?_)
   | (with_reducible refine LeO.bind ?_ (fun _ => ?_))
   | exact ih0 _ _ _ _ _
   | exact ih1 _ _ _ _ _
   | exact ih2 _ _ _ _ _ _ _
   | exact ih3 _ _ _ _ _ _
   | exact ih4 _ _ _ _ _ _ _
   | exact edits_Normal.mono _ _ _ _
   | exact edits_Pairs.mono _ _ _ _
   | exact hunks_builder_hunk.mono _ _ _ _ _
   | exact lines_Valid.mono _ _
   | exact LeO.none _
   | refine LeO.ite ?_ ?_
   | refine LeO.bind ?_ (fun _ => ?_)
  ·intro y0 y1 y2 y3 y4 y5 y6
   unfold hunks_Build.l0
   repeat' first
   | (with_reducible exact ih0 _ _ _ _ _)
   | (with_reducible exact ih1 _ _ _ _ _)
   | (with_reducible exact ih2 _ _ _ _ _ _ _)
   | (with_reducible exact ih3 _ _ _ _ _ _)
   | (with_reducible exact ih4 _ _ _ _ _ _ _)
   | (with_reducible exact edits_Normal.mono _ _ _ _)
   | (with_reducible exact edits_Pairs.mono _ _ _ _)
   | (with_reducible exact hunks_builder_hunk.mono _ _ _ _ _)
   | (with_reducible exact lines_Valid.mono _ _)
   | (with_reducible exact LeO.refl _)
   | (with_reducible exact LeO.none _)
   | (with_reducible refine LeO.ite ?_ ?_)
   | (with_reducible refine LeO.bind ?_ (fun _ => ?_))
   | exact ih0 _ _ _ _ _
   | exact ih1 _ _ _ _ _
   | exact ih2 _ _ _ _ _ _ _
   | exact ih3 _ _ _ _ _ _
   | exact ih4 _ _ _ _ _ _ _
   | exact edits_Normal.mono _ _ _ _
   | exact edits_Pairs.mono _ _ _ _
   | exact hunks_builder_hunk.mono _ _ _ _ _
   | exact lines_Valid.mono _ _
   | exact LeO.none _
   | refine LeO.ite ?_ ?_
   | refine LeO.bind ?_ (fun _ => ?_)
  ·intro y0 y1 y2 y3 y4 y5
   unfold hunks_Build.l1
   repeat' first
   | (with_reducible exact ih0 _ _ _ _ _)
   | (with_reducible exact ih1 _ _ _ _ _)
   | (with_reducible exact ih2 _ _ _ _ _ _ _)
   | (with_reducible exact ih3 _ _ _ _ _ _)
   | (with_reducible exact ih4 _ _ _ _ _ _ _)
   | (with_reducible exact edits_Normal.mono _ _ _ _)
   | (with_reducible exact edits_Pairs.mono _ _ _ _)
   | (with_reducible exact hunks_builder_hunk.mono _ _ _ _ _)
   | (with_reducible exact lines_Valid.mono _ _)
   | (with_reducible exact LeO.refl _)
   | (with_reducible exact LeO.none _)
   | (with_reducible refine LeO.ite ?_ ?_)
   | (with_reducible refine LeO.bind ?_ (fun _ => ?_))
   | exact ih0 _ _ _ _ _
   | exact ih1 _ _ _ _ _
   | exact ih2 _ _ _ _ _ _ _
   | exact ih3 _ _ _ _ _ _
   | exact ih4 _ _ _ _ _ _ _
   | exact edits_Normal.mono _ _ _ _
   | exact edits_Pairs.mono _ _ _ _
   | exact hunks_builder_hunk.mono _ _ _ _ _
   | exact lines_Valid.mono _ _
   | exact LeO.none _
   | refine LeO.ite ?_ ?_
   | refine LeO.bind ?_ (fun _ => ?_)
  ·intro y0 y1 y2 y3 y4 y5 y6
   unfold hunks_Build.l2
   repeat' first
   | (with_reducible exact ih0 _ _ _ _ _)
   | (with_reducible exact ih1 _ _ _ _ _)
   | (with_reducible exact ih2 _ _ _ _ _ _ _)
   | (with_reducible exact ih3 _ _ _ _ _ _)
   | (with_reducible exact ih4 _ _ _ _ _ _ _)
   | (with_reducible exact edits_Normal.mono _ _ _ _)
   | (with_reducible exact edits_Pairs.mono _ _ _ _)
   | (with_reducible exact hunks_builder_hunk.mono _ _ _ _ _)
   | (with_reducible exact lines_Valid.mono _ _)
   | (with_reducible exact LeO.refl _)
   | (with_reducible exact LeO.none _)
   | (with_reducible refine LeO.ite ?_ ?_)
   | (with_reducible refine LeO.bind ?_ (fun _ => ?_))
   | exact ih0 _ _ _ _ _
   | exact ih1 _ _ _ _ _
   | exact ih2 _ _ _ _ _ _ _
   | exact ih3 _ _ _ _ _ _
   | exact ih4 _ _ _ _ _ _ _
   | exact edits_Normal.mono _ _ _ _
   | exact edits_Pairs.mono _ _ _ _
   | exact hunks_builder_hunk.mono _ _ _ _ _
   | exact lines_Valid.mono _ _
   | exact LeO.none _
   | refine LeO.ite ?_ ?_
   | refine LeO.bind ?_ (fun _ => ?_)
theorem hunks_Build.mono : ∀ a0 a1 a2 a3 k, LeO (hunks_Build.f k a0 a1 a2 a3) (hunks_Build.f (k + 1) a0 a1 a2 a3) := by
 intro a0 a1 a2 a3 k
 obtain ⟨ih0, ih1, ih2, ih3, ih4⟩ := hunks_Build.mono_l k
 unfold hunks_Build.f
 repeat' first
   | (with_reducible exact ih0 _ _ _ _ _)
   | (with_reducible exact ih1 _ _ _ _ _)
   | (with_reducible exact ih2 _ _ _ _ _ _ _)
   | (with_reducible exact ih3 _ _ _ _ _ _)
   | (with_reducible exact ih4 _ _ _ _ _ _ _)
   | (with_reducible exact edits_Normal.mono _ _ _ _)
   | (with_reducible exact edits_Pairs.mono _ _ _ _)
   | (with_reducible exact hunks_builder_hunk.mono _ _ _ _ _)
   | (with_reducible exact lines_Valid.mono _ _)
   | (with_reducible exact LeO.refl _)
   | (with_reducible exact LeO.none _)
   | (with_reducible refine LeO.ite ?_ ?_)
   | (with_reducible refine LeO.bind ?_ (fun _ => ?_))
   | exact ih0 _ _ _ _ _
   | exact ih1 _ _ _ _ _
   | exact ih2 _ _ _ _ _ _ _
   | exact ih3 _ _ _ _ _ _
   | exact ih4 _ _ _ _ _ _ _
   | exact edits_Normal.mono _ _ _ _
   | exact edits_Pairs.mono _ _ _ _
   | exact hunks_builder_hunk.mono _ _ _ _ _
   | exact lines_Valid.mono _ _
   | exact LeO.none _
   | refine LeO.ite ?_ ?_
   | refine LeO.bind ?_ (fun _ => ?_)
def hunks_Build.T14 : Bool × List (List Nat × List Nat) := (true, [([], []), ([], []), ([1], [1]), ([0, 2], [0, 2]), ([3], [3]), ([4], [4]), ([], []), ([], []), ([7], [7]), ([6, 8], [6, 8]), ([9], [9]), ([10, 5], [10]), ([5, 11], [5, 11])])
def hunks_Build.B14 : List Nat := [0, 0, 2, 7, 15, 31, 0, 0, 128, 448, 960, 2047, 4095]
theorem hunks_Build.tab14 : rtab .any (opsOf Tryd.f5 14) = hunks_Build.T14 := by kernel_rfl
theorem hunks_Build.bits14 : waitsOk hunks_Build.T14.2 hunks_Build.B14 = true := by kernel_rfl
def hunks_Build.T22 : Bool × List (List Nat × List Nat) := (true, [([], []), ([], []), ([1], [1]), ([0, 2], [0, 2]), ([3], [3]), ([4], [4]), ([4], [4]), ([5, 6, 4], [4, 5, 6]), ([7, 4], [4, 7]), ([8, 4], [4, 8]), ([4], [4]), ([4], [4]), ([11, 4], [4, 11]), ([10, 12, 4], [4, 10, 12]), ([13, 4], [4, 13]), ([14, 4], [4, 14]), ([9, 15, 4], [4, 9, 15]), ([4], [4]), ([4], [4]), ([18, 4], [4, 18]), ([17, 19, 4], [4, 17, 19]), ([20, 4], [4, 20]), ([21, 4], [4, 21]), ([16, 22, 4], [4, 16, 22]), ([4], [4]), ([24, 4], [4, 24]), ([23, 25, 4], [4, 23, 25]), ([4, 26], [4, 26])])
def hunks_Build.B22 : List Nat := [0, 0, 2, 7, 15, 31, 31, 127, 255, 511, 31, 31, 2079, 7199, 15391, 31775, 65535, 31, 31, 262175, 917535, 1966111, 4063263, 8388607, 31, 16777247, 67108863, 134217727]
theorem hunks_Build.tab22 : rtab .any (opsOf Tryd.f5 22) = hunks_Build.T22 := by kernel_rfl
theorem hunks_Build.bits22 : waitsOk hunks_Build.T22.2 hunks_Build.B22 = true := by kernel_rfl
def hunks_Build.T24 : Bool × List (List Nat × List Nat) := (true, [([], []), ([], []), ([], []), ([], []), ([], []), ([2, 3, 4], [2, 3, 4]), ([], []), ([1, 5, 6], [1, 5, 6]), ([7], [7]), ([0, 8, 7], [0, 8]), ([9, 9, 0, 1, 2, 3, 4, 5, 6, 7, 8, 9], [0, 9])])
def hunks_Build.B24 : List Nat := [0, 0, 0, 0, 0, 28, 0, 126, 254, 511, 1023]
theorem hunks_Build.tab24 : rtab .any (opsOf Tryd.f5 24) = hunks_Build.T24 := by kernel_rfl
theorem hunks_Build.bits24 : waitsOk hunks_Build.T24.2 hunks_Build.B24 = true := by kernel_rfl
set_option maxHeartbeats 80000000 in
set_option maxRecDepth 100000 in
theorem hunks_Build.calls (k : Nat) (A0 : Option Addr) (c0 : Nat) (l0 : List (S53)) (A1 : Option Addr) (c1 : Nat) (l1 : List ByteArray) (A2 : Option Addr) (c2 : Nat) (l2 : List ByteArray) (a3 : Int) (r1 : List (S41)) (r2 : Option Int) (w : World) (hr0 : Kd.C k53 w A0 l0.length l0) (hc0 : l0.length ≤ c0) (hr1 : Kd.C Kd.string w A1 l1.length l1) (hc1 : l1.length ≤ c1) (hr2 : Kd.C Kd.string w A2 l2.length l2) (hc2 : l2.length ≤ c2) (h : hunks_Build.f k l0 l1 l2 a3 = some (r1, r2)) :
  Calls Tryd.prog 5 #[.slice A0 l0.length c0, .slice A1 l1.length c1, .slice A2 l2.length c2, .int .i64 a3] w fun e w' => ∃ v0_ : Value, e = .returned (.tuple #[v0_, errW r2]) ∧ Kd.S k41 41 w' w.heap.size (fun _ => True) v0_ r1 ∧ Below w.heap.size w w' := by
 have hu94 := Tryd.underlying37
 have hu97 := Tryd.underlying62
 have hu25 := Tryd.underlying28
 have hu73 := Tryd.underlying57
 have HR0 := Aside0.mk hr0
 have HC0 := Aside0.mk hc0
 clear hr0 hc0
 have HR1 := Aside0.mk hr1
 have HC1 := Aside0.mk hc1
 clear hr1 hc1
 have HR2 := Aside0.mk hr2
 have HC2 := Aside0.mk hc2
 clear hr2 hc2
 have HB := Aside0.mk (Below.refl w.heap.size w)
 have H := h
 clear h
 unfold hunks_Build.f at H
 have HC5 := Aside0.mk H
 clear H
 have hxp94_0 : ∀ (g_ : Nat) (w_ : World), (Instr.indexAt 37 (.pointer (some ⟨g_, 0, none⟩)) (.int .i64 0)).run Tryd.prog w_ = .ok (.pointer (some ⟨g_, 0, none⟩)) w_ := fun _ _ => by kernel_rfl
 have hxp94_1 : ∀ (g_ : Nat) (w_ : World), (Instr.indexAt 37 (.pointer (some ⟨g_, 0, none⟩)) (.int .i64 1)).run Tryd.prog w_ = .ok (.pointer (some ⟨g_, 1, none⟩)) w_ := fun _ _ => by kernel_rfl
 go_enter Tryd.func5, Tryd.ntmps5
 try simp only [List.append_eq, List.cons_append, List.nil_append]
 go_upto_region 1 with (fail)
 go_cut [23] (fun v23 wc => ∃ (kq : Nat) (x23_4 : Bool), v23 = .bool x23_4 ∧ Aside0 (hunks_Build.j0 kq l0 l1 l2 a3 x23_4 = some (r1, r2)) ∧ Aside0 (kq ≤ k) ∧ Aside0 (Below w.heap.size w wc))
 case first =>
  have H := HC5.out
  clear HC5
  replace H := itL H
  rcases H with ⟨-, c6b0, H⟩ | ⟨-, c6b0, H⟩
  ·(first | rw [c6b0] | (simp only [i64_w, i32_w]; rw [c6b0]) | skip)
   have H' := Aside0.mk H
   clear H
   go_wp2
   go_meet
   case rel => exact ⟨_, (true), eqNow, H', ⟨by first | omega | exact Nat.le_refl _⟩, ⟨belNow⟩⟩
  (first | rw [c6b0] | (simp only [i64_w, i32_w]; rw [c6b0]) | skip)
  have H' := Aside0.mk H
  clear H
  go_wp2
  go_meet
  case rel => exact ⟨_, (decide (a3 > 2147483647)), eqNow, H', ⟨by first | omega | exact Nat.le_refl _⟩, ⟨belNow⟩⟩
 case rest =>
  clear HC5
  try clear c1
  try clear c2
  obtain ⟨kq, x23_4, rfl, HA, HJ4, HB⟩ := hcut
  cases kq with
  | zero => exact absurd HA.out (by simp [hunks_Build.j0])
  | succ kj4 =>
   have H := HA.out
   clear HA
   simp only [hunks_Build.j0] at H
   replace H := itB H
   rcases H with ⟨rfl, H⟩ | ⟨rfl, H⟩
   ·simp only [Option.some.injEq, Prod.mk.injEq] at H
    obtain ⟨rfl, rfl⟩ := H
    go_wp2
    go_ret2
    exact ⟨_, eqEnd, kNil, belNow⟩
   have HC8 := Aside0.mk H
   clear H
   go_upto_region 3 with (fail)
   go_cut [32] (fun v32 wc => ∃ (kq : Nat) (x32_7 : Bool), v32 = .bool x32_7 ∧ Aside0 (hunks_Build.j1 kq l0 l1 l2 a3 x32_7 = some (r1, r2)) ∧ Aside0 (kq ≤ kj4) ∧ Aside0 (Below w.heap.size w wc))
   case first =>
    have H := HC8.out
    clear HC8
    replace H := bdS H
    obtain ⟨t282, A9, H⟩ := H
    replace H := itBn H
    rcases H with ⟨rfl, H⟩ | ⟨rfl, H⟩
    ·have H' := Aside0.mk H
     clear H
     go_wp2_with (first | ((with_reducible refine gate_callee (f := 20) rfl ?_); refine goL (some 26) Tryd.func20 #[.slice A1 l1.length c1] ?_; (with_reducible refine (lines_Valid.calls kj4 _ _ l1 false _ ?side1 ?side2 A9.out).mono ?_); (case side1 => exact kcU HR1 HB); (case side2 => exact HC1.out); rintro e w' ⟨rfl, ⟨nd, rfl⟩⟩; refine ⟨_, rfl, ?_⟩))
     go_meet
     case rel => exact ⟨_, (true), eqNow, H', ⟨by have := HJ4.out; first | omega | exact Nat.le_refl _⟩, ⟨belNow⟩⟩
    replace H := bdS H
    obtain ⟨t283, A11, H⟩ := H
    have H' := Aside0.mk H
    clear H
    go_wp2_with (first | ((with_reducible refine gate_callee (f := 20) rfl ?_); refine goL (some 26) Tryd.func20 #[.slice A1 l1.length c1] ?_; (with_reducible refine (lines_Valid.calls kj4 _ _ l1 true _ ?side1 ?side2 A9.out).mono ?_); (case side1 => exact kcU HR1 HB); (case side2 => exact HC1.out); rintro e w' ⟨rfl, ⟨nd, rfl⟩⟩; refine ⟨_, rfl, ?_⟩) | (go_at_call 20; (with_reducible refine (lines_Valid.calls kj4 _ _ l2 t283 _ ?side1 ?side2 A11.out).mono ?_); (case side1 => repeat (first | exact (Kd.C_below HR2.out belNow) | (with_reducible refine Kd.C_alloc ?_ _) | (with_reducible refine Kd.C_drewN ?_ _) | (with_reducible refine Kd.C_drew ?_))); (case side2 => exact HC2.out); rintro e w' ⟨rfl, ⟨nd, rfl⟩⟩))
    go_meet
    case rel => exact ⟨_, (!t283), eqNow, H', ⟨by have := HJ4.out; first | omega | exact Nat.le_refl _⟩, ⟨belNow⟩⟩
   case rest =>
    clear HC8
    try clear c1
    try clear c2
    obtain ⟨kq, x32_7, rfl, HA, HJ7, HB⟩ := hcut
    cases kq with
    | zero => exact absurd HA.out (by simp [hunks_Build.j1])
    | succ kj7 =>
     have H := HA.out
     clear HA
     simp only [hunks_Build.j1] at H
     replace H := itB H
     rcases H with ⟨rfl, H⟩ | ⟨rfl, H⟩
     ·simp only [Option.some.injEq, Prod.mk.injEq] at H
      obtain ⟨rfl, rfl⟩ := H
      go_wp2
      go_ret2
      exact ⟨_, eqEnd, kNil, belNow⟩
     replace H := bdS H
     obtain ⟨⟨t284, t285⟩, A13, H⟩ := H
     replace H : (if t285.isNone = true then ((edits_Pairs.f kj7 t284 (l1.length : Int) (l2.length : Int)).bind fun bt289 => (if bt289.2.isNone = true then (hunks_Build.l0 kj7 t284 l1 l2 a3 bt289.1 (bt289.1.length : Int) 0) else (some (([] : List (S41)), some (bt289.2.getD 0))))) else (some (([] : List (S41)), some (t285.getD 0)))) = some (r1, r2) := H
     rcases t285 with _ | q288
     ·have H1 : ((edits_Pairs.f kj7 t284 (l1.length : Int) (l2.length : Int)).bind fun bt289 => (if bt289.2.isNone = true then (hunks_Build.l0 kj7 t284 l1 l2 a3 bt289.1 (bt289.1.length : Int) 0) else (some (([] : List (S41)), some (bt289.2.getD 0))))) = some (r1, r2) := by rw [if_pos (show (none : Option Int).isNone = true by rfl)] at H; exact H
      clear H
      have H := H1
      clear H1
      try simp only [errW_none, errW_some]
      replace H := bdS H
      obtain ⟨⟨t289, t290⟩, A14, H⟩ := H
      replace H : (if t290.isNone = true then (hunks_Build.l0 kj7 t284 l1 l2 a3 t289 (t289.length : Int) 0) else (some (([] : List (S41)), some (t290.getD 0)))) = some (r1, r2) := H
      rcases t290 with _ | q293
      ·have H1 : (hunks_Build.l0 kj7 t284 l1 l2 a3 t289 (t289.length : Int) 0) = some (r1, r2) := by rw [if_pos (show (none : Option Int).isNone = true by rfl)] at H; exact H
       clear H
       have H := H1
       clear H1
       try simp only [errW_none, errW_some]
       have H' := Aside0.mk H
       clear H
       go_wp2_with (first | ((with_reducible refine gate_callee (f := 17) rfl ?_); refine goL (some 40) Tryd.func17 #[.slice A0 l0.length c0, .int .i64 (l1.length : Int), .int .i64 (l2.length : Int)] ?_; (with_reducible refine (edits_Normal.calls kj7 _ _ l0 (l1.length : Int) (l2.length : Int) t284 none _ ?side1 ?side2 A13.out).mono ?_); (case side1 => exact kcU HR0 HB); (case side2 => exact HC0.out); rintro e w15 ⟨v286, rfl, ho0, hb⟩; refine ⟨_, rfl, ?_⟩; have HO287 := Aside0.mk (Kd.R_lower ho0 (below_size belNow)); replace HB := hbD HB hb; clear hb; (try clear ho0); (try simp only [errW_none, errW_some]); obtain ⟨Ao16, co16, eo16⟩ := Kd.R_slice HO287.out; subst eo16) | ((with_reducible refine gate_callee (f := 21) rfl ?_); refine goL (some 52) Tryd.func21 #[.slice Ao16 t284.length co16, .int .i64 (l1.length : Int), .int .i64 (l2.length : Int)] ?_; (with_reducible refine (edits_Pairs.calls kj7 _ _ t284 (l1.length : Int) (l2.length : Int) t289 none _ ?side1 ?side2 A14.out).mono ?_); (case side1 => repeat (first | exact (Kd.R_reads' HO287.out).2.2 | (with_reducible refine Kd.C_alloc ?_ _) | (with_reducible refine Kd.C_drewN ?_ _) | (with_reducible refine Kd.C_drew ?_))); (case side2 => exact (Kd.R_reads' HO287.out).2.1); rintro e w17 ⟨v291, rfl, ho0, hb⟩; refine ⟨_, rfl, ?_⟩; replace HO287 := Aside0.mk (Kd.R_below (kdUp HO287.out) hb); have HO292 := Aside0.mk (Kd.R_lower ho0 (below_size belNow)); replace HB := hbD HB hb; clear hb; (try clear ho0); (try simp only [errW_none, errW_some]); obtain ⟨Ao18, co18, eo18⟩ := Kd.R_slice HO292.out; subst eo18))
       go_loopg [60] kj7 (fun kq v60 w' => ∃ (x60_3 : Int), v60 = .int .i64 x60_3 ∧ Aside0 (hunks_Build.l0 kq t284 l1 l2 a3 t289 (t289.length : Int) x60_3 = some (r1, r2)) ∧ Aside0 (kq ≤ kj7) ∧ Aside0 (Kd.R k53 53 w' w.heap.size (fun _ => True) (.slice Ao16 t284.length co16) t284) ∧ Aside0 (Kd.R k37 37 w' w.heap.size (fun _ => True) (.slice Ao18 t289.length co18) t289) ∧ Aside0 (Below w.heap.size w w'))
       case atStart => exact ⟨(0), eqNow, H', ⟨Nat.le_refl _⟩, ⟨kdMv HO287⟩, ⟨kdMv HO292⟩, ⟨belNow⟩⟩
       case round =>
        clear H'
        try clear c1
        try clear c2
        try clear q288
        try clear q293
        obtain ⟨x60_3, rfl, HA, HK3, HO_0, HO_58, HB⟩ := hrel
        cases gk with
        | zero => exact absurd HA.out (by simp [hunks_Build.l0])
        | succ k3 =>
         have H := HA.out
         clear HA
         simp only [hunks_Build.l0] at H
         replace H := itL H
         rcases H with ⟨-, c19b0, H⟩ | ⟨-, c19b0, H⟩
         ·replace H := itLn H
          rcases H with ⟨_, _, H⟩ | ⟨-, c20b0, H⟩
          ·cases H
          replace H := itLn H
          rcases H with ⟨_, _, H⟩ | ⟨-, c21b0, H⟩
          ·cases H
          replace H := itLn H
          rcases H with ⟨_, _, H⟩ | ⟨-, c22b0, H⟩
          ·cases H
          replace H := itLn H
          rcases H with ⟨_, _, H⟩ | ⟨-, c23b0, H⟩
          ·cases H
          replace H := bdS H
          obtain ⟨t297, A24, H⟩ := H
          replace H := itLn H
          rcases H with ⟨_, _, H⟩ | ⟨-, c25b0, H⟩
          ·cases H
          replace H := itLn H
          rcases H with ⟨_, _, H⟩ | ⟨-, c26b0, H⟩
          ·cases H
          replace H := bdS H
          obtain ⟨t299, A27, H⟩ := H
          replace H := itE H
          rcases H with ⟨c28, -, -, H⟩ | ⟨c28, -, -, H⟩
          ·have c28b0 : (t297 != t299) = true := c28
           (try (have c28b1 : decide (t297 = t299) = false := by simpa using c28))
           (try (have c28b2 : (t297 == t299) = false := by simpa using c28))
           (try (have c28b3 : ¬ (t297 = t299) := by simpa using c28))
           clear c28
           simp only [Option.some.injEq, Prod.mk.injEq] at H
           obtain ⟨rfl, rfl⟩ := H
           have p294 : 0 ≤ (x60_3 : Int) := ofDec
           have q294 : x60_3 < (t289.length : Int) := ofDec
           obtain ⟨ad294, e294, hx294_0, hx294_1⟩ := at_T37 (Kd.R_reads' HO_58.out).2.2 x60_3 p294 q294
           cases e294
           replace p294 := eq_true p294
           replace q294 := eq_true q294
           try go_wp2_with (first | ((with_reducible refine gate_dst (N := 13) rfl ?_); refine boxEv (N := 13) #[.int .i64 0, .int .i64 0] 37 ?_; intro gb295 hg w29 hbox hb; replace HO_0 := Aside0.mk (Kd.R_below (kdUp HO_0.out) hb); replace HO_58 := Aside0.mk (Kd.R_below (Kd.R_elderB (kdUp HO_58.out) gb295 (Nat.le_of_eq hg.symm)) hb); have BK295 := Aside0.mk hbox; have GW295 := gwN HB hg; have GE295 := GW295; replace HB := hbD HB hb; clear hb hbox hg; obtain ⟨hcz30_0, hcz30_1, hfz30_0, hfz30_1⟩ := bcf2 (W := w29) BK295))
           generalize hW_ : ((w29.setCell ⟨gb295, 0, none⟩ (.int .i64 ((rd_T37 t289 x60_3).f0))).setCell ⟨gb295, 1, none⟩ (.int .i64 ((rd_T37 t289 x60_3).f1))) = w31
           replace HO_0 : Aside0 (Kd.R k53 53 w31 w.heap.size (fun _ => True) (.slice Ao16 t284.length co16) t284) := ⟨by subst hW_; (with_reducible repeat (first | apply Kd.R_alloc | apply Kd.R_drewN | apply Kd.R_drew)); exact Kd.R_mono (Kd.R_far (p := ⟨gb295, 1, none⟩) (Kd.R_far (p := ⟨gb295, 0, none⟩) (Kd.R_types HO_0.out BK295.out (by decide)) (fun _ hk => hk.2) (.int .i64 ((rd_T37 t289 x60_3).f0))) (fun _ hk => hk.2) (.int .i64 ((rd_T37 t289 x60_3).f1))) (fun _ hk => trivial)⟩
           replace HO_58 : Aside0 (Kd.R k37 37 w31 w.heap.size (fun k_ => k_ ≠ gb295) (.slice (some ad294) t289.length co18) t289) := ⟨by subst hW_; (with_reducible repeat (first | apply Kd.R_alloc | apply Kd.R_drewN | apply Kd.R_drew)); exact Kd.R_mono (Kd.R_far (p := ⟨gb295, 1, none⟩) (Kd.R_far (p := ⟨gb295, 0, none⟩) (Kd.R_mono HO_58.out (fun k_ hk => (⟨hk, hk.2⟩ : _ ∧ k_ ≠ gb295))) (fun _ hk => hk.2) (.int .i64 ((rd_T37 t289 x60_3).f0))) (fun _ hk => hk.2) (.int .i64 ((rd_T37 t289 x60_3).f1))) (fun _ hk => hk.1.2)⟩
           replace BK295 := bkG BK295 hW_
           replace HB := hbG HB hW_
           clear hW_
           replace HO_0 := Aside0.mk (Kd.R_drew HO_0.out)
           replace HO_58 := Aside0.mk (Kd.R_drew HO_58.out)
           replace BK295 := Aside0.mk (blk_drew BK295.out)
           replace HB := Aside0.mk (below_drew1 HB.out)
           have p296 : 0 ≤ (((rd_T37 t289 x60_3).f0) : Int) := ofDec
           have q296 : ((rd_T37 t289 x60_3).f0) < (l1.length : Int) := ofDec
           obtain ⟨ad296, e296, hx296_0⟩ := Kd.at_string HR1.out ((rd_T37 t289 x60_3).f0) p296 q296
           have hw296_0 := hx296_0
           cases e296
           replace hx296_0 := cUp HB.out hx296_0
           replace p296 := eq_true p296
           replace q296 := eq_true q296
           have p298 : 0 ≤ (((rd_T37 t289 x60_3).f1) : Int) := ofDec
           have q298 : ((rd_T37 t289 x60_3).f1) < (l2.length : Int) := ofDec
           obtain ⟨ad298, e298, hx298_0⟩ := Kd.at_string HR2.out ((rd_T37 t289 x60_3).f1) p298 q298
           have hw298_0 := hx298_0
           cases e298
           replace hx298_0 := cUp HB.out hx298_0
           replace p298 := eq_true p298
           replace q298 := eq_true q298
           refine start_ (n := 13) (S := fun w' => w'.cell? ⟨gb295, 0, none⟩ = some (.int .i64 ((rd_T37 t289 x60_3).f0)) ∧ w'.cell? ⟨gb295, 1, none⟩ = some (.int .i64 ((rd_T37 t289 x60_3).f1)) ∧ w'.cell? (ad296.add (((rd_T37 t289 x60_3).f0)).toNat) = some (.string (rdOf ByteArray.empty l1 ((rd_T37 t289 x60_3).f0))) ∧ w'.cell? (ad298.add (((rd_T37 t289 x60_3).f1)).toNat) = some (.string (rdOf ByteArray.empty l2 ((rd_T37 t289 x60_3).f1)))) (ds := []) (Array.replicate 13 false) (by kernel_rfl) rfl rfl ⟨bc BK295 0, bc BK295 1, (cUp HB.out hw296_0 :), (cUp HB.out hw298_0 :)⟩ (fun hHeld => ?_); refine with_tabW hunks_Build.tab14 hunks_Build.bits14 (fun HT_ HW_ => ?_)
           generalize w31.drew = w32 at HO_0 HO_58 BK295 HB hx296_0 hx298_0 hHeld ⊢
           refine pureT 0 ?_
           refine pureT 1 ?_
           refine pureT 6 ?_
           refine pureT 7 ?_
           refine takeT 2 hHeld ?_
           refine pureT 3 ?_
           refine takeT 4 hHeld ?_
           refine takeT 8 hHeld ?_
           refine pureT 9 ?_
           refine takeT 10 hHeld ?_
           refine oneT (N := some 69) 5 (fun K hK => ?_)
           refine goes_ Tryd.func22 (by kernel_rfl) rfl #[.string (rdOf ByteArray.empty l1 ((rd_T37 t289 x60_3).f0))] (by rfl) rfl rfl argsOk ?_
           with_reducible refine (lines_Whole.calls (rdOf ByteArray.empty l1 ((rd_T37 t289 x60_3).f0)) t297 _ A24.out).mono ?_
           rintro e w' ⟨rfl, ⟨nd, rfl⟩⟩
           refine ⟨_, rfl, ?_⟩
           refine hK.out _ _ ⟨bc BK295 0, bc BK295 1, (cUp HB.out hw296_0 :), (cUp HB.out hw298_0 :)⟩ (fun hHeld => ?_)
           clear hK K
           refine putT ?_
           refine oneT (N := some 75) 11 (fun K hK => ?_)
           refine goes_ Tryd.func22 (by kernel_rfl) rfl #[.string (rdOf ByteArray.empty l2 ((rd_T37 t289 x60_3).f1))] (by rfl) rfl rfl argsOk ?_
           with_reducible refine (lines_Whole.calls (rdOf ByteArray.empty l2 ((rd_T37 t289 x60_3).f1)) t299 _ A27.out).mono ?_
           rintro e w' ⟨rfl, ⟨nd, rfl⟩⟩
           refine ⟨_, rfl, ?_⟩
           refine hK.out _ _ ⟨bc BK295 0, bc BK295 1, (cUp HB.out hw296_0 :), (cUp HB.out hw298_0 :)⟩ (fun hHeld => ?_)
           clear hK K
           refine putT ?_
           refine pureT 12 ?_
           refine done_ (done_of HT_.out (by kernel_rfl)) ?_
           try go_wp2
           go_ret2
           exact ⟨_, eqEnd, kNil, belPut⟩
          have c28b0 : (t297 != t299) = false := by simpa using c28
          (try (have c28b1 : decide (t297 = t299) = true := by simpa using c28))
          (try (have c28b2 : (t297 == t299) = true := by simpa using c28))
          clear c28
          have H' := Aside0.mk H
          clear H
          have p294 : 0 ≤ (x60_3 : Int) := ofDec
          have q294 : x60_3 < (t289.length : Int) := ofDec
          obtain ⟨ad294, e294, hx294_0, hx294_1⟩ := at_T37 (Kd.R_reads' HO_58.out).2.2 x60_3 p294 q294
          cases e294
          replace p294 := eq_true p294
          replace q294 := eq_true q294
          try go_wp2_with (first | ((with_reducible refine gate_dst (N := 13) rfl ?_); refine boxEv (N := 13) #[.int .i64 0, .int .i64 0] 37 ?_; intro gb295 hg w33 hbox hb; replace HO_0 := Aside0.mk (Kd.R_below (kdUp HO_0.out) hb); replace HO_58 := Aside0.mk (Kd.R_below (Kd.R_elderB (kdUp HO_58.out) gb295 (Nat.le_of_eq hg.symm)) hb); have BK295 := Aside0.mk hbox; have GW295 := gwN HB hg; have GE295 := GW295; replace HB := hbD HB hb; clear hb hbox hg; obtain ⟨hcz34_0, hcz34_1, hfz34_0, hfz34_1⟩ := bcf2 (W := w33) BK295))
          generalize hW_ : ((w33.setCell ⟨gb295, 0, none⟩ (.int .i64 ((rd_T37 t289 x60_3).f0))).setCell ⟨gb295, 1, none⟩ (.int .i64 ((rd_T37 t289 x60_3).f1))) = w35
          replace HO_0 : Aside0 (Kd.R k53 53 w35 w.heap.size (fun _ => True) (.slice Ao16 t284.length co16) t284) := ⟨by subst hW_; (with_reducible repeat (first | apply Kd.R_alloc | apply Kd.R_drewN | apply Kd.R_drew)); exact Kd.R_mono (Kd.R_far (p := ⟨gb295, 1, none⟩) (Kd.R_far (p := ⟨gb295, 0, none⟩) (Kd.R_types HO_0.out BK295.out (by decide)) (fun _ hk => hk.2) (.int .i64 ((rd_T37 t289 x60_3).f0))) (fun _ hk => hk.2) (.int .i64 ((rd_T37 t289 x60_3).f1))) (fun _ hk => trivial)⟩
          replace HO_58 : Aside0 (Kd.R k37 37 w35 w.heap.size (fun k_ => k_ ≠ gb295) (.slice (some ad294) t289.length co18) t289) := ⟨by subst hW_; (with_reducible repeat (first | apply Kd.R_alloc | apply Kd.R_drewN | apply Kd.R_drew)); exact Kd.R_mono (Kd.R_far (p := ⟨gb295, 1, none⟩) (Kd.R_far (p := ⟨gb295, 0, none⟩) (Kd.R_mono HO_58.out (fun k_ hk => (⟨hk, hk.2⟩ : _ ∧ k_ ≠ gb295))) (fun _ hk => hk.2) (.int .i64 ((rd_T37 t289 x60_3).f0))) (fun _ hk => hk.2) (.int .i64 ((rd_T37 t289 x60_3).f1))) (fun _ hk => hk.1.2)⟩
          replace BK295 := bkG BK295 hW_
          replace HB := hbG HB hW_
          clear hW_
          replace HO_0 := Aside0.mk (Kd.R_drew HO_0.out)
          replace HO_58 := Aside0.mk (Kd.R_drew HO_58.out)
          replace BK295 := Aside0.mk (blk_drew BK295.out)
          replace HB := Aside0.mk (below_drew1 HB.out)
          have p296 : 0 ≤ (((rd_T37 t289 x60_3).f0) : Int) := ofDec
          have q296 : ((rd_T37 t289 x60_3).f0) < (l1.length : Int) := ofDec
          obtain ⟨ad296, e296, hx296_0⟩ := Kd.at_string HR1.out ((rd_T37 t289 x60_3).f0) p296 q296
          have hw296_0 := hx296_0
          cases e296
          replace hx296_0 := cUp HB.out hx296_0
          replace p296 := eq_true p296
          replace q296 := eq_true q296
          have p298 : 0 ≤ (((rd_T37 t289 x60_3).f1) : Int) := ofDec
          have q298 : ((rd_T37 t289 x60_3).f1) < (l2.length : Int) := ofDec
          obtain ⟨ad298, e298, hx298_0⟩ := Kd.at_string HR2.out ((rd_T37 t289 x60_3).f1) p298 q298
          have hw298_0 := hx298_0
          cases e298
          replace hx298_0 := cUp HB.out hx298_0
          replace p298 := eq_true p298
          replace q298 := eq_true q298
          refine start_ (n := 13) (S := fun w' => w'.cell? ⟨gb295, 0, none⟩ = some (.int .i64 ((rd_T37 t289 x60_3).f0)) ∧ w'.cell? ⟨gb295, 1, none⟩ = some (.int .i64 ((rd_T37 t289 x60_3).f1)) ∧ w'.cell? (ad296.add (((rd_T37 t289 x60_3).f0)).toNat) = some (.string (rdOf ByteArray.empty l1 ((rd_T37 t289 x60_3).f0))) ∧ w'.cell? (ad298.add (((rd_T37 t289 x60_3).f1)).toNat) = some (.string (rdOf ByteArray.empty l2 ((rd_T37 t289 x60_3).f1)))) (ds := []) (Array.replicate 13 false) (by kernel_rfl) rfl rfl ⟨bc BK295 0, bc BK295 1, (cUp HB.out hw296_0 :), (cUp HB.out hw298_0 :)⟩ (fun hHeld => ?_); refine with_tabW hunks_Build.tab14 hunks_Build.bits14 (fun HT_ HW_ => ?_)
          generalize w35.drew = w36 at HO_0 HO_58 BK295 HB hx296_0 hx298_0 hHeld ⊢
          refine pureT 0 ?_
          refine pureT 1 ?_
          refine pureT 6 ?_
          refine pureT 7 ?_
          refine takeT 2 hHeld ?_
          refine pureT 3 ?_
          refine takeT 4 hHeld ?_
          refine takeT 8 hHeld ?_
          refine pureT 9 ?_
          refine takeT 10 hHeld ?_
          refine oneT (N := some 69) 5 (fun K hK => ?_)
          refine goes_ Tryd.func22 (by kernel_rfl) rfl #[.string (rdOf ByteArray.empty l1 ((rd_T37 t289 x60_3).f0))] (by rfl) rfl rfl argsOk ?_
          with_reducible refine (lines_Whole.calls (rdOf ByteArray.empty l1 ((rd_T37 t289 x60_3).f0)) t297 _ A24.out).mono ?_
          rintro e w' ⟨rfl, ⟨nd, rfl⟩⟩
          refine ⟨_, rfl, ?_⟩
          refine hK.out _ _ ⟨bc BK295 0, bc BK295 1, (cUp HB.out hw296_0 :), (cUp HB.out hw298_0 :)⟩ (fun hHeld => ?_)
          clear hK K
          refine putT ?_
          refine oneT (N := some 75) 11 (fun K hK => ?_)
          refine goes_ Tryd.func22 (by kernel_rfl) rfl #[.string (rdOf ByteArray.empty l2 ((rd_T37 t289 x60_3).f1))] (by rfl) rfl rfl argsOk ?_
          with_reducible refine (lines_Whole.calls (rdOf ByteArray.empty l2 ((rd_T37 t289 x60_3).f1)) t299 _ A27.out).mono ?_
          rintro e w' ⟨rfl, ⟨nd, rfl⟩⟩
          refine ⟨_, rfl, ?_⟩
          refine hK.out _ _ ⟨bc BK295 0, bc BK295 1, (cUp HB.out hw296_0 :), (cUp HB.out hw298_0 :)⟩ (fun hHeld => ?_)
          clear hK K
          refine putT ?_
          refine pureT 12 ?_
          refine done_ (done_of HT_.out (by kernel_rfl)) ?_
          try go_wp2
          go_roundg k3
          case measure => have := HJ4.out; have := HJ7.out; have := HK3.out; omega
          case rel => exact ⟨(wrap64 (x60_3 + 1)), eqNow, H', ⟨by have := HJ4.out; have := HJ7.out; have := HK3.out; omega⟩, ⟨kdMv HO_0⟩, ⟨by (with_reducible repeat (first | apply Kd.R_alloc | apply Kd.R_drewN | apply Kd.R_drew)); exact Kd.R_mono HO_58.out (fun _ hk => trivial)⟩, ⟨belPut⟩⟩
         have H' := Aside0.mk H
         clear H
         go_wp2_with (first | ((with_reducible refine gate_dst (N := 14) rfl ?_); refine boxEv (N := 14) #[.slice none 0 0, .slice none 0 0] 62 ?_; intro gb300 hg w37 hbox hb; replace HO_0 := Aside0.mk (Kd.R_below (kdUp HO_0.out) hb); replace HO_58 := Aside0.mk (Kd.R_below (kdUp HO_58.out) hb); have BK300 := Aside0.mk hbox; have GW300 := gwN HB hg; have GE300 := GW300; replace HB := hbD HB hb; clear hb hbox hg; obtain ⟨hcz38_0, hcz38_1, hfz38_0, hfz38_1⟩ := bcf2 (W := w37) BK300))
         go_loopg [15, 16] k3 (fun kq v15 v16 w' => ∃ (x15_4 : List (S41)) (x16_4 : Int), v16 = .int .i64 x16_4 ∧ Aside0 (hunks_Build.l1 kq t284 a3 x15_4 x16_4 l1 l2 = some (r1, r2)) ∧ Aside0 (kq ≤ k3) ∧ Aside0 (Kd.R k53 53 w' w.heap.size (fun _ => True) (.slice Ao16 t284.length co16) t284) ∧ Aside0 (Kd.S k41 41 w' w.heap.size (fun _ => True) v15 x15_4) ∧ Aside0 (w'.heap[gb300]? = some (.cells #[(.slice A1 l1.length c1), (.slice A2 l2.length c2)] 62 (0, 0))) ∧ Aside0 (Below w.heap.size w w'))
         case atStart => exact ⟨(([] : List (S41))), (0), eqNow, H', ⟨Nat.le_refl _⟩, ⟨by (with_reducible repeat (first | apply Kd.R_alloc | apply Kd.R_drewN | apply Kd.R_drew)); exact Kd.R_mono (Kd.R_far (p := ⟨gb300, 1, none⟩) (Kd.R_far (p := ⟨gb300, 0, none⟩) (Kd.R_types HO_0.out BK300.out (by decide)) (fun _ hk => hk.2) (.slice A1 l1.length c1)) (fun _ hk => hk.2) (.slice A2 l2.length c2)) (fun _ hk => trivial)⟩, ⟨kNil⟩, ⟨bkT BK300⟩, ⟨belPut⟩⟩
         case round =>
          clear H'
          try clear c1
          try clear c2
          try clear c19b0
          try clear hcz38_0 hcz38_1
          try clear hfz38_0 hfz38_1
          try clear q288
          try clear q293
          obtain ⟨x15_4, x16_4, rfl, HA, HK4, HO_0, HO_15, BK300, HB⟩ := hrel
          cases gk with
          | zero => exact absurd HA.out (by simp [hunks_Build.l1])
          | succ k4 =>
           have H := HA.out
           clear HA
           simp only [hunks_Build.l1] at H
           replace H := itLn H
           rcases H with ⟨-, c39b0, H⟩ | ⟨-, c39b0, H⟩
           ·simp only [Option.some.injEq, Prod.mk.injEq] at H
            obtain ⟨rfl, rfl⟩ := H
            go_wp2
            go_ret2
            exact ⟨_, eqEnd, by (with_reducible repeat (first | apply Kd.S_alloc | apply Kd.S_drewN | apply Kd.S_drew)); exact HO_15.out, belPut⟩
           have H' := Aside0.mk H
           clear H
           go_wp2
           go_loopg [17] k4 (fun kq v17 w' => ∃ (x17_5 : Int), v17 = .int .i64 x17_5 ∧ Aside0 (hunks_Build.l2 kq t284 a3 x15_4 x16_4 x17_5 l1 l2 = some (r1, r2)) ∧ Aside0 (kq ≤ k4) ∧ Aside0 (Kd.R k53 53 w' w.heap.size (fun _ => True) (.slice Ao16 t284.length co16) t284) ∧ Aside0 (Kd.S k41 41 w' w.heap.size (fun _ => True) u15 x15_4) ∧ Aside0 (w'.heap[gb300]? = some (.cells #[(.slice A1 l1.length c1), (.slice A2 l2.length c2)] 62 (0, 0))) ∧ Aside0 (Below w.heap.size w w'))
           case atStart => exact ⟨(wrap64 (x16_4 + 1)), eqNow, H', ⟨Nat.le_refl _⟩, ⟨kdMv HO_0⟩, ⟨kdMv HO_15⟩, ⟨bkUp BK300.out⟩, ⟨belPut⟩⟩
           case round =>
            clear H'
            try clear c1
            try clear c2
            try clear c19b0
            try clear c39b0
            try clear hcz38_0 hcz38_1
            try clear hfz38_0 hfz38_1
            try clear q288
            try clear q293
            obtain ⟨x17_5, rfl, HA, HK5, HO_0, HO_15, BK300, HB⟩ := hrel
            cases gk with
            | zero => exact absurd HA.out (by simp [hunks_Build.l2])
            | succ k5 =>
             have H := HA.out
             clear HA
             simp only [hunks_Build.l2] at H
             replace H := itLn H
             rcases H with ⟨-, c40b0, H⟩ | ⟨-, c40b0, H⟩
             ·replace H := itLn H
              rcases H with ⟨_, _, H⟩ | ⟨c58, -, H⟩
              ·cases H
              have c58b0 := eq_true c58
              have c58b1 : decide (0 ≤ x16_4) = true := decide_eq_true c58
              clear c58
              replace H := itLn H
              rcases H with ⟨_, _, H⟩ | ⟨c59, -, H⟩
              ·cases H
              have c59b0 := eq_true c59
              have c59b1 : decide (x16_4 ≤ x17_5) = true := decide_eq_true c59
              clear c59
              replace H := itLn H
              rcases H with ⟨_, _, H⟩ | ⟨c60, -, H⟩
              ·cases H
              have c60b0 := eq_true c60
              have c60b1 : decide (x17_5 ≤ (t284.length : Int)) = true := decide_eq_true c60
              clear c60
              obtain ⟨y319, hy319⟩ : ∃ y_ : List (S53), y_ = ((t284.take (x17_5 : Int).toNat).drop (x16_4 : Int).toNat) := ⟨_, rfl⟩
              replace H : ((hunks_builder_hunk.f k5 l1 l2 y319 a3).bind fun bt323 => (if x15_4.length < 1954687338268 then (hunks_Build.l1 k5 t284 a3 (x15_4 ++ [(⟨bt323.1, bt323.2.1, bt323.2.2.1, bt323.2.2.2.1, bt323.2.2.2.2.1, bt323.2.2.2.2.2⟩ : S41)]) x17_5 l1 l2) else (none))) = some (r1, r2) := by first | (rw [hy319]; with_reducible exact H) | (have H2_ := (Option.bind_some _ _).symm.trans H; rw [hy319]; with_reducible exact H2_) | (have H2_ := (Option.bind_some _ _).symm.trans H; with_reducible exact H2_) | with_reducible exact H | (rw [hy319]; exact H) | exact H
              have Ny319 := Aside0.mk hy319
              clear hy319
              replace H := bdS H
              obtain ⟨⟨t323, t324, t325, t326, t327, t328⟩, A61, H⟩ := H
              replace H : (if x15_4.length < 1954687338268 then (hunks_Build.l1 k5 t284 a3 (x15_4 ++ [(⟨t323, t324, t325, t326, t327, t328⟩ : S41)]) x17_5 l1 l2) else (none)) = some (r1, r2) := H
              replace H := itLn H
              rcases H with ⟨_, _, H⟩ | ⟨c62, -, H⟩
              ·cases H
              have LMc62 := Aside0.mk c62
              clear c62
              obtain ⟨y331, hy331⟩ : ∃ y_ : List (S41), y_ = (x15_4 ++ [(⟨t323, t324, t325, t326, t327, t328⟩ : S41)]) := ⟨_, rfl⟩
              replace H : (hunks_Build.l1 k5 t284 a3 y331 x17_5 l1 l2) = some (r1, r2) := by first | (rw [hy331]; with_reducible exact H) | (have H2_ := (Option.bind_some _ _).symm.trans H; rw [hy331]; with_reducible exact H2_) | (have H2_ := (Option.bind_some _ _).symm.trans H; with_reducible exact H2_) | with_reducible exact H | (rw [hy331]; exact H) | exact H
              have Ny331 := Aside0.mk hy331
              clear hy331
              have H' := Aside0.mk H
              clear H
              try go_wp2
              replace HO_0 := Aside0.mk (Kd.R_drew HO_0.out)
              replace HO_15 := Aside0.mk (Kd.S_drew HO_15.out)
              replace BK300 := Aside0.mk (blk_drew BK300.out)
              replace HB := Aside0.mk (below_drew1 HB.out)
              refine start_ (n := 28) (S := fun w' => True) (ds := []) (Array.replicate 28 false) (by kernel_rfl) rfl rfl trivial (fun hHeld => ?_); refine with_tabW hunks_Build.tab22 hunks_Build.bits22 (fun HT_ HW_ => ?_)
              generalize wr.drew = w63 at HO_0 HO_15 BK300 HB hHeld ⊢
              refine pureT 0 ?_
              refine pureT 1 ?_
              refine pureT 2 ?_
              refine pureT 3 ?_
              refine pureT 4 ?_
              refine pureV 5 ?_
              refine pureV 6 ?_
              refine pureV 7 ?_
              refine pureV 8 ?_
              refine pureV 9 ?_
              refine pureV 10 ?_
              refine pureV 11 ?_
              refine pureV 12 ?_
              refine pureV 13 ?_
              refine pureV 14 ?_
              refine pureV 15 ?_
              refine pureV 16 ?_
              refine pureV 17 ?_
              refine pureV 18 ?_
              refine pureV 19 ?_
              refine pureV 20 ?_
              refine pureV 21 ?_
              refine pureV 22 ?_
              refine pureV 23 ?_
              refine pureV 24 ?_
              refine pureV 25 ?_
              refine pureV 26 ?_
              refine pureT 27 ?_
              refine done_ (done_of HT_.out (by kernel_rfl)) ?_
              try go_wp2
              replace HO_0 := Aside0.mk (Kd.R_drew HO_0.out)
              replace HO_15 := Aside0.mk (Kd.S_drew HO_15.out)
              replace BK300 := Aside0.mk (blk_drew BK300.out)
              replace HB := Aside0.mk (below_drew1 HB.out)
              have q65 : (x17_5 : Int) ≤ ((t284.length : Int) : Int) := ofDec
              obtain ⟨i065, hi065, _, hsz65, _⟩ := info_parts info53
              have hroom65 : t284.length ≤ co16 := (Kd.R_reads' HO_0.out).2.1
              have hC65 : Kd.C k53 _ Ao16 t284.length t284 := (Kd.R_reads' HO_0.out).2.2
              have ql65 : (x16_4 : Int) ≤ (x17_5 : Int) := ofDec
              have q065 : (0 : Int) ≤ (x16_4 : Int) := ofDec
              have hcut65 := cut_mid (P := Tryd.prog) 22 53 .i64 .i64 Tryd.underlying22 hi065 4 hsz65 Ao16 t284.length co16 x16_4 x17_5 q065 ql65 q65 hroom65
              have hr65 := Kd.C_mid (lo := (x16_4 : Int).toNat) (hi := (x17_5 : Int).toNat) (c := co16) hC65 (by omega) (by omega) hroom65
              obtain ⟨A65, hA65⟩ : ∃ A1, A1 = (if co16 = (x16_4 : Int).toNat then Ao16 else (Ao16 : Option Addr).map (·.add ((x16_4 : Int).toNat * 4))) := ⟨_, rfl⟩
              obtain ⟨c65, hc65⟩ : ∃ c1, c1 = co16 - (x16_4 : Int).toNat := ⟨_, rfl⟩
              have hy65 : y319.length = (x17_5 : Int).toNat - (x16_4 : Int).toNat := (by rw [Ny319.out, List.length_drop, List.length_take] <;> omega)
              rw [show ((t284).take (x17_5 : Int).toNat).drop (x16_4 : Int).toNat = y319 from Ny319.out.symm] at hr65
              replace hr65 : Kd.C k53 _ A65 y319.length y319 := (by rw [hA65]; exact hr65)
              rw [← hy65, ← hA65, ← hc65] at hcut65
              have HR322 := Aside0.mk hr65
              have HC322 := Aside0.mk (show y319.length ≤ c65 from by rw [hy65, hc65]; exact Nat.sub_le_sub_right (Nat.le_trans (by omega) hroom65) _)
              clear hr65 hC65 hroom65 hi065 hsz65 hc65
              have KY65 := Aside0.mk hy65
              have KA65 := Aside0.mk hA65
              clear hy65 hA65
              have KL65 := Aside0.mk (show (x17_5 : Int).toNat ≤ t284.length from by omega)
              have KM65 := Aside0.mk (show (x16_4 : Int).toNat ≤ (x17_5 : Int).toNat from by omega)
              replace q65 := eq_true q65
              refine start_ (n := 11) (S := fun w' => w'.cell? ⟨gb300, 0, none⟩ = some (.slice A1 l1.length c1) ∧ w'.cell? ⟨gb300, 1, none⟩ = some (.slice A2 l2.length c2)) (ds := []) (Array.replicate 11 false) (by kernel_rfl) rfl rfl ⟨bc BK300 0, bc BK300 1⟩ (fun hHeld => ?_); refine with_tabW hunks_Build.tab24 hunks_Build.bits24 (fun HT_ HW_ => ?_)
              generalize w63.drew = w64 at HO_0 HO_15 BK300 HB HR322 hHeld ⊢
              refine pureT 0 ?_
              refine pureT 2 ?_
              refine pureT 3 ?_
              refine pureT 4 ?_
              refine pureT 5 ?_
              refine pureT 6 ?_
              refine takeT 1 hHeld ?_
              refine oneT (N := some 125) 7 (fun K hK => ?_)
              refine goes_ Tryd.func23 (by kernel_rfl) rfl #[.agg #[.slice A1 l1.length c1, .slice A2 l2.length c2], .slice A65 y319.length c65, .int .i64 a3] (by rfl) rfl rfl argsOk ?_
              with_reducible refine (hunks_builder_hunk.calls k5 _ _ l1 _ _ l2 _ _ y319 a3 t323 t324 t325 t326 t327 t328 _ ?side1 ?side2 ?side3 ?side4 ?side5 ?side6 A61.out).mono ?_
              (case side1 => exact kcU HR1 HB)
              (case side2 => exact HC1.out)
              (case side3 => exact kcU HR2 HB)
              (case side4 => exact HC2.out)
              (case side5 => repeat (first | exact (by repeat (first | (with_reducible exact HR322.out) | (with_reducible refine Kd.C_alloc ?_ _) | (with_reducible refine Kd.C_drewN ?_ _) | (with_reducible refine Kd.C_drew ?_) | exact HR322.out)) | (with_reducible refine Kd.C_alloc ?_ _) | (with_reducible refine Kd.C_drewN ?_ _) | (with_reducible refine Kd.C_drew ?_)))
              (case side6 => exact HC322.out)
              rintro e w66 ⟨v329, rfl, ho0, hb⟩
              refine ⟨_, rfl, ?_⟩
              replace HO_0 := Aside0.mk (Kd.R_below (kdUp HO_0.out) hb)
              replace HO_15 := Aside0.mk (Kd.S_elder' (by (with_reducible repeat (first | apply Kd.S_alloc | apply Kd.S_drewN | apply Kd.S_drew)); exact HO_15.out) (Kd.R_base ho0) hb)
              have HO330 := Aside0.mk (Kd.R_lower ho0 (below_size (belPut)))
              replace BK300 := bkD BK300 hb
              replace HR322 := Aside0.mk (Kd.C_below (by repeat (first | (with_reducible exact HR322.out) | (with_reducible refine Kd.C_alloc ?_ _) | (with_reducible refine Kd.C_drewN ?_ _) | (with_reducible refine Kd.C_drew ?_) | exact HR322.out)) hb)
              replace HB := hbD HB hb
              (try clear hb)
              (try clear hk)
              (try clear ho0)
              obtain ⟨Ao68, co68, eo68⟩ := Kd.R_slice HO330.out
              (first | subst eo68 | (injection eo68 with f1_ f2_ f3_; have f4_ := f1_.symm; have f5_ := f3_.symm; clear f1_ f2_ f3_; subst f4_; subst f5_))
              refine hK.out _ _ ⟨bc BK300 0, bc BK300 1⟩ (fun hHeld => ?_)
              clear hK K
              refine putT ?_
              refine oneT (N := some 126) 8 (fun K hK => ?_)
              refine value_ (w1 := ?_) (v := ?_) (by rfl) rfl ?_ ?_
              rotate_left 2
              ·go_simp
               constructor
               ·rfl
               rfl
              refine hK.out _ _ ⟨(blk_cell (blk_alloc BK300.out _) 0).trans rfl, (blk_cell (blk_alloc BK300.out _) 1).trans rfl⟩ (fun hHeld => ?_)
              clear hK K
              refine putD 126 ?_
              refine oneT (N := some 127) 9 (fun K hK => ?_)
              refine Kd.S_append_step k41 (w0 := w) w.heap.size (by rfl) (.tmp 118) (.tmp 126) 26 41 (.agg #[(.int .i64 0), (.int .i64 0), (.int .i64 0), (.int .i64 0), (.string ⟨#[]⟩), (.slice none 0 0)]) 72 rfl Tryd.underlying26 info41 rfl (by decide) (by omega) u15 x15_4 (⟨t323, t324, t325, t326, t327, t328⟩ : S41) [.int .i64 t323, .int .i64 t324, .int .i64 t325, .int .i64 t326, .string t327, .slice Ao68 t328.length co68] (fun _ => True) (fun k_ => some k_ = (.slice Ao68 t328.length co68 : Value).ownBlock) rfl rfl ?aP (fun k_ hk_ => ((Kd.R_mono (ok' := fun k_ => ((fun _ => True)) k_ ∧ some k_ ≠ (u15 : Value).ownBlock) (Kd.R_apart' (HO330.out) (Kd.S_typed HO_15.out) (by decide)) (fun k_ hk => ⟨trivial, hk.2⟩))).1 k_ hk_.symm) ?aF ?aO ?aB ?aS ?aL ?_
              (case aP => exact k41_mkM _ _ _ (⟨t323, t324, t325, t326, t327, t328⟩ : S41) (Kd.R_mono (Kd.R_tight rfl (Kd.R_mono (ok' := fun k_ => ((fun _ => True)) k_ ∧ some k_ ≠ (u15 : Value).ownBlock) (Kd.R_apart' (HO330.out) (Kd.S_typed HO_15.out) (by decide)) (fun k_ hk => ⟨trivial, hk.2⟩))) (fun _ h_ => h_)))
              (case aB => exact (belPut))
              (case aF => exact (fun _ _ => trivial))
              (case aO => exact (by (with_reducible repeat (first | apply Kd.S_alloc | apply Kd.S_drewN | apply Kd.S_drew)); exact Kd.S_mono HO_15.out (fun k_ hk => ⟨trivial, fun e_ => hk.2 e_⟩)))
              (case aS => exact (below_size (belPut)))
              (case aL => have := LMc62.out; omega)
              intro v332 w67 ho hb hg hat
              rw [← Ny331.out] at ho
              replace BK300 := Aside0.mk (blk_grown (g := gb300) (o := .cells #[.slice A1 l1.length c1, .slice A2 l2.length c2] 62 (0, 0)) (bkUp BK300.out) hg (Kd.S_ne HO_15.out BK300.out (by decide)))
              replace HB := Aside0.mk hb
              replace HR322 := Aside0.mk ((show Kd.C k53 w67 A65 y319.length y319 from by rw [Ny319.out, KA65.out]; exact Kd.C_mid (lo := (x16_4 : Int).toNat) (hi := (x17_5 : Int).toNat) (c := co16) ((Kd.R_reads' (Kd.R_over' (kdUp HO_0.out) (Kd.S_typed (by (with_reducible repeat (first | apply Kd.S_alloc | apply Kd.S_drewN | apply Kd.S_drew)); exact HO_15.out)) (by decide) hg)).2.2) KM65.out KL65.out ((Kd.R_reads' (Kd.R_over' (kdUp HO_0.out) (Kd.S_typed (by (with_reducible repeat (first | apply Kd.S_alloc | apply Kd.S_drewN | apply Kd.S_drew)); exact HO_15.out)) (by decide) hg)).2.1)))
              replace HO_0 := Aside0.mk (Kd.R_over' (kdUp HO_0.out) (Kd.S_typed (by (with_reducible repeat (first | apply Kd.S_alloc | apply Kd.S_drewN | apply Kd.S_drew)); exact HO_15.out)) (by decide) hg)
              have HO333 := Aside0.mk (ho)
              clear HO_15 HO330
              clear ho hb hg hat
              refine hK.out _ _ ⟨bc BK300 0, bc BK300 1⟩ (fun hHeld => ?_)
              clear hK K
              refine putD 127 ?_
              refine pureT 10 ?_
              refine done_ (done_of HT_.out (by kernel_rfl)) ?_
              try go_wp2
              go_roundg k5
              case measure => have := HJ4.out; have := HJ7.out; have := HK3.out; have := HK4.out; have := HK5.out; omega
              case rel => exact ⟨(y331), (x17_5), eqNow, H', ⟨by have := HJ4.out; have := HJ7.out; have := HK3.out; have := HK4.out; have := HK5.out; omega⟩, ⟨kdMv HO_0⟩, ⟨kdMv HO333⟩, ⟨bkUp BK300.out⟩, ⟨belPut⟩⟩
             replace H := itLn H
             rcases H with ⟨_, _, H⟩ | ⟨-, c41b0, H⟩
             ·cases H
             obtain ⟨ji42, hji42⟩ : ∃ j_ : Int, (wrap64 (x17_5 - 1)) = j_ := ⟨_, rfl⟩
             first | rw [hji42] at H | simp only [hji42] at H
             have hji42w : (IntKind.i64.wrap (x17_5 - 1)) = ji42 := (i64_w _).trans hji42
             replace H := itLn H
             rcases H with ⟨_, _, H⟩ | ⟨-, c43b0, H⟩
             ·cases H
             replace H := itLn H
             rcases H with ⟨_, _, H⟩ | ⟨-, c44b0, H⟩
             ·cases H
             replace H := itL H
             rcases H with ⟨-, c45b0, H⟩ | ⟨-, c45b0, H⟩
             ·have H' := Aside0.mk H
              clear H
              try go_wp2
              replace HO_0 := Aside0.mk (Kd.R_drew HO_0.out)
              replace HO_15 := Aside0.mk (Kd.S_drew HO_15.out)
              replace BK300 := Aside0.mk (blk_drew BK300.out)
              replace HB := Aside0.mk (below_drew1 HB.out)
              have p301 : 0 ≤ (x17_5 : Int) := ofDec
              have q301 : x17_5 < (t284.length : Int) := ofDec
              obtain ⟨ad301, e301, hx301_0, hx301_1, hx301_2, hx301_3⟩ := at_T53 (Kd.R_reads' HO_0.out).2.2 x17_5 p301 q301
              cases e301
              replace p301 := eq_true p301
              replace q301 := eq_true q301
              have p302 : 0 ≤ ((ji42) : Int) := ofDec
              have q302 : (ji42) < (t284.length : Int) := ofDec
              obtain ⟨ad302, e302, hx302_0, hx302_1, hx302_2, hx302_3⟩ := at_T53 (Kd.R_reads' HO_0.out).2.2 (ji42) p302 q302
              obtain rfl : ad301 = ad302 := (by injection e302)
              replace p302 := eq_true p302
              replace q302 := eq_true q302
              have p303 : 0 ≤ ((ji42) : Int) := ofDec
              have q303 : (ji42) < (t284.length : Int) := ofDec
              obtain ⟨ad303, e303, hx303_0, hx303_1, hx303_2, hx303_3⟩ := at_T53 (Kd.R_reads' HO_0.out).2.2 (ji42) p303 q303
              obtain rfl : ad301 = ad303 := (by injection e303)
              replace p303 := eq_true p303
              replace q303 := eq_true q303
              refine start_ (n := 28) (S := fun w' => w'.cell? (ad301.add ((x17_5).toNat * 4)) = some (.int .i64 ((rd_T53 t284 x17_5).f0)) ∧ w'.cell? ⟨(ad301.add ((x17_5).toNat * 4)).block, (ad301.add ((x17_5).toNat * 4)).off + 1, none⟩ = some (.int .i64 ((rd_T53 t284 x17_5).f1)) ∧ w'.cell? ⟨(ad301.add ((x17_5).toNat * 4)).block, (ad301.add ((x17_5).toNat * 4)).off + 2, none⟩ = some (.int .i64 ((rd_T53 t284 x17_5).f2)) ∧ w'.cell? ⟨(ad301.add ((x17_5).toNat * 4)).block, (ad301.add ((x17_5).toNat * 4)).off + 3, none⟩ = some (.int .i64 ((rd_T53 t284 x17_5).f3)) ∧ w'.cell? (ad301.add (((ji42)).toNat * 4)) = some (.int .i64 ((rd_T53 t284 (ji42)).f0)) ∧ w'.cell? ⟨(ad301.add (((ji42)).toNat * 4)).block, (ad301.add (((ji42)).toNat * 4)).off + 1, none⟩ = some (.int .i64 ((rd_T53 t284 (ji42)).f1)) ∧ w'.cell? ⟨(ad301.add (((ji42)).toNat * 4)).block, (ad301.add (((ji42)).toNat * 4)).off + 2, none⟩ = some (.int .i64 ((rd_T53 t284 (ji42)).f2)) ∧ w'.cell? ⟨(ad301.add (((ji42)).toNat * 4)).block, (ad301.add (((ji42)).toNat * 4)).off + 3, none⟩ = some (.int .i64 ((rd_T53 t284 (ji42)).f3)) ∧ w'.cell? (ad301.add (((ji42)).toNat * 4)) = some (.int .i64 ((rd_T53 t284 (ji42)).f0)) ∧ w'.cell? ⟨(ad301.add (((ji42)).toNat * 4)).block, (ad301.add (((ji42)).toNat * 4)).off + 1, none⟩ = some (.int .i64 ((rd_T53 t284 (ji42)).f1)) ∧ w'.cell? ⟨(ad301.add (((ji42)).toNat * 4)).block, (ad301.add (((ji42)).toNat * 4)).off + 2, none⟩ = some (.int .i64 ((rd_T53 t284 (ji42)).f2)) ∧ w'.cell? ⟨(ad301.add (((ji42)).toNat * 4)).block, (ad301.add (((ji42)).toNat * 4)).off + 3, none⟩ = some (.int .i64 ((rd_T53 t284 (ji42)).f3))) (ds := []) (Array.replicate 28 false) (by kernel_rfl) rfl rfl ⟨hx301_0, hx301_1, hx301_2, hx301_3, hx302_0, hx302_1, hx302_2, hx302_3, hx303_0, hx303_1, hx303_2, hx303_3⟩ (fun hHeld => ?_); refine with_tabW hunks_Build.tab22 hunks_Build.bits22 (fun HT_ HW_ => ?_)
              generalize wr.drew = w46 at HO_0 HO_15 BK300 HB hx301_0 hx301_1 hx301_2 hx301_3 hx302_0 hx302_1 hx302_2 hx302_3 hx303_0 hx303_1 hx303_2 hx303_3 hHeld ⊢
              refine pureT 0 ?_
              refine pureT 1 ?_
              refine pureT 2 ?_
              refine pureT 3 ?_
              refine pureT 4 ?_
              refine pureT 5 ?_
              refine pureT 6 ?_
              refine pureT 7 ?_
              refine pureT 8 ?_
              refine pureT 10 ?_
              refine pureT 11 ?_
              refine pureT 12 ?_
              refine pureT 13 ?_
              refine pureT 14 ?_
              refine pureT 17 ?_
              refine pureT 18 ?_
              refine pureT 19 ?_
              refine pureT 20 ?_
              refine pureT 21 ?_
              refine pureT 24 ?_
              refine pureT 25 ?_
              refine takeT 9 hHeld ?_
              refine takeT 15 hHeld ?_
              refine pureT 16 ?_
              refine takeT 22 hHeld ?_
              refine pureT 23 ?_
              refine pureT 26 ?_
              refine pureT 27 ?_
              refine done_ (done_of HT_.out (by kernel_rfl)) ?_
              try go_wp2
              go_roundg k5
              case measure => have := HJ4.out; have := HJ7.out; have := HK3.out; have := HK4.out; have := HK5.out; omega
              case rel => exact ⟨(wrap64 (x17_5 + 1)), eqNow, H', ⟨by have := HJ4.out; have := HJ7.out; have := HK3.out; have := HK4.out; have := HK5.out; omega⟩, ⟨kdMv HO_0⟩, ⟨kdMv HO_15⟩, ⟨bkUp BK300.out⟩, ⟨belPut⟩⟩
             replace H := itLn H
             rcases H with ⟨_, _, H⟩ | ⟨c47, -, H⟩
             ·cases H
             have c47b0 := eq_true c47
             have c47b1 : decide (0 ≤ x16_4) = true := decide_eq_true c47
             clear c47
             replace H := itLn H
             rcases H with ⟨_, _, H⟩ | ⟨c48, -, H⟩
             ·cases H
             have c48b0 := eq_true c48
             have c48b1 : decide (x16_4 ≤ x17_5) = true := decide_eq_true c48
             clear c48
             replace H := itLn H
             rcases H with ⟨_, _, H⟩ | ⟨c49, -, H⟩
             ·cases H
             have c49b0 := eq_true c49
             have c49b1 : decide (x17_5 ≤ (t284.length : Int)) = true := decide_eq_true c49
             clear c49
             obtain ⟨y304, hy304⟩ : ∃ y_ : List (S53), y_ = ((t284.take (x17_5 : Int).toNat).drop (x16_4 : Int).toNat) := ⟨_, rfl⟩
             replace H : ((hunks_builder_hunk.f k5 l1 l2 y304 a3).bind fun bt308 => (if x15_4.length < 1954687338268 then (hunks_Build.l1 k5 t284 a3 (x15_4 ++ [(⟨bt308.1, bt308.2.1, bt308.2.2.1, bt308.2.2.2.1, bt308.2.2.2.2.1, bt308.2.2.2.2.2⟩ : S41)]) x17_5 l1 l2) else (none))) = some (r1, r2) := by first | (rw [hy304]; with_reducible exact H) | (have H2_ := (Option.bind_some _ _).symm.trans H; rw [hy304]; with_reducible exact H2_) | (have H2_ := (Option.bind_some _ _).symm.trans H; with_reducible exact H2_) | with_reducible exact H | (rw [hy304]; exact H) | exact H
             have Ny304 := Aside0.mk hy304
             clear hy304
             replace H := bdS H
             obtain ⟨⟨t308, t309, t310, t311, t312, t313⟩, A50, H⟩ := H
             replace H : (if x15_4.length < 1954687338268 then (hunks_Build.l1 k5 t284 a3 (x15_4 ++ [(⟨t308, t309, t310, t311, t312, t313⟩ : S41)]) x17_5 l1 l2) else (none)) = some (r1, r2) := H
             replace H := itLn H
             rcases H with ⟨_, _, H⟩ | ⟨c51, -, H⟩
             ·cases H
             have LMc51 := Aside0.mk c51
             clear c51
             obtain ⟨y316, hy316⟩ : ∃ y_ : List (S41), y_ = (x15_4 ++ [(⟨t308, t309, t310, t311, t312, t313⟩ : S41)]) := ⟨_, rfl⟩
             replace H : (hunks_Build.l1 k5 t284 a3 y316 x17_5 l1 l2) = some (r1, r2) := by first | (rw [hy316]; with_reducible exact H) | (have H2_ := (Option.bind_some _ _).symm.trans H; rw [hy316]; with_reducible exact H2_) | (have H2_ := (Option.bind_some _ _).symm.trans H; with_reducible exact H2_) | with_reducible exact H | (rw [hy316]; exact H) | exact H
             have Ny316 := Aside0.mk hy316
             clear hy316
             have H' := Aside0.mk H
             clear H
             try go_wp2
             replace HO_0 := Aside0.mk (Kd.R_drew HO_0.out)
             replace HO_15 := Aside0.mk (Kd.S_drew HO_15.out)
             replace BK300 := Aside0.mk (blk_drew BK300.out)
             replace HB := Aside0.mk (below_drew1 HB.out)
             have p301 : 0 ≤ (x17_5 : Int) := ofDec
             have q301 : x17_5 < (t284.length : Int) := ofDec
             obtain ⟨ad301, e301, hx301_0, hx301_1, hx301_2, hx301_3⟩ := at_T53 (Kd.R_reads' HO_0.out).2.2 x17_5 p301 q301
             cases e301
             replace p301 := eq_true p301
             replace q301 := eq_true q301
             have p302 : 0 ≤ ((ji42) : Int) := ofDec
             have q302 : (ji42) < (t284.length : Int) := ofDec
             obtain ⟨ad302, e302, hx302_0, hx302_1, hx302_2, hx302_3⟩ := at_T53 (Kd.R_reads' HO_0.out).2.2 (ji42) p302 q302
             obtain rfl : ad301 = ad302 := (by injection e302)
             replace p302 := eq_true p302
             replace q302 := eq_true q302
             have p303 : 0 ≤ ((ji42) : Int) := ofDec
             have q303 : (ji42) < (t284.length : Int) := ofDec
             obtain ⟨ad303, e303, hx303_0, hx303_1, hx303_2, hx303_3⟩ := at_T53 (Kd.R_reads' HO_0.out).2.2 (ji42) p303 q303
             obtain rfl : ad301 = ad303 := (by injection e303)
             replace p303 := eq_true p303
             replace q303 := eq_true q303
             refine start_ (n := 28) (S := fun w' => w'.cell? (ad301.add ((x17_5).toNat * 4)) = some (.int .i64 ((rd_T53 t284 x17_5).f0)) ∧ w'.cell? ⟨(ad301.add ((x17_5).toNat * 4)).block, (ad301.add ((x17_5).toNat * 4)).off + 1, none⟩ = some (.int .i64 ((rd_T53 t284 x17_5).f1)) ∧ w'.cell? ⟨(ad301.add ((x17_5).toNat * 4)).block, (ad301.add ((x17_5).toNat * 4)).off + 2, none⟩ = some (.int .i64 ((rd_T53 t284 x17_5).f2)) ∧ w'.cell? ⟨(ad301.add ((x17_5).toNat * 4)).block, (ad301.add ((x17_5).toNat * 4)).off + 3, none⟩ = some (.int .i64 ((rd_T53 t284 x17_5).f3)) ∧ w'.cell? (ad301.add (((ji42)).toNat * 4)) = some (.int .i64 ((rd_T53 t284 (ji42)).f0)) ∧ w'.cell? ⟨(ad301.add (((ji42)).toNat * 4)).block, (ad301.add (((ji42)).toNat * 4)).off + 1, none⟩ = some (.int .i64 ((rd_T53 t284 (ji42)).f1)) ∧ w'.cell? ⟨(ad301.add (((ji42)).toNat * 4)).block, (ad301.add (((ji42)).toNat * 4)).off + 2, none⟩ = some (.int .i64 ((rd_T53 t284 (ji42)).f2)) ∧ w'.cell? ⟨(ad301.add (((ji42)).toNat * 4)).block, (ad301.add (((ji42)).toNat * 4)).off + 3, none⟩ = some (.int .i64 ((rd_T53 t284 (ji42)).f3)) ∧ w'.cell? (ad301.add (((ji42)).toNat * 4)) = some (.int .i64 ((rd_T53 t284 (ji42)).f0)) ∧ w'.cell? ⟨(ad301.add (((ji42)).toNat * 4)).block, (ad301.add (((ji42)).toNat * 4)).off + 1, none⟩ = some (.int .i64 ((rd_T53 t284 (ji42)).f1)) ∧ w'.cell? ⟨(ad301.add (((ji42)).toNat * 4)).block, (ad301.add (((ji42)).toNat * 4)).off + 2, none⟩ = some (.int .i64 ((rd_T53 t284 (ji42)).f2)) ∧ w'.cell? ⟨(ad301.add (((ji42)).toNat * 4)).block, (ad301.add (((ji42)).toNat * 4)).off + 3, none⟩ = some (.int .i64 ((rd_T53 t284 (ji42)).f3))) (ds := []) (Array.replicate 28 false) (by kernel_rfl) rfl rfl ⟨hx301_0, hx301_1, hx301_2, hx301_3, hx302_0, hx302_1, hx302_2, hx302_3, hx303_0, hx303_1, hx303_2, hx303_3⟩ (fun hHeld => ?_); refine with_tabW hunks_Build.tab22 hunks_Build.bits22 (fun HT_ HW_ => ?_)
             generalize wr.drew = w52 at HO_0 HO_15 BK300 HB hx301_0 hx301_1 hx301_2 hx301_3 hx302_0 hx302_1 hx302_2 hx302_3 hx303_0 hx303_1 hx303_2 hx303_3 hHeld ⊢
             refine pureT 0 ?_
             refine pureT 1 ?_
             refine pureT 2 ?_
             refine pureT 3 ?_
             refine pureT 4 ?_
             refine pureT 5 ?_
             refine pureT 6 ?_
             refine pureT 7 ?_
             refine pureT 8 ?_
             refine pureT 10 ?_
             refine pureT 11 ?_
             refine pureT 12 ?_
             refine pureT 13 ?_
             refine pureT 14 ?_
             refine pureT 17 ?_
             refine pureT 18 ?_
             refine pureT 19 ?_
             refine pureT 20 ?_
             refine pureT 21 ?_
             refine pureT 24 ?_
             refine pureT 25 ?_
             refine takeT 9 hHeld ?_
             refine takeT 15 hHeld ?_
             refine pureT 16 ?_
             refine takeT 22 hHeld ?_
             refine pureT 23 ?_
             refine pureT 26 ?_
             refine pureT 27 ?_
             refine done_ (done_of HT_.out (by kernel_rfl)) ?_
             try go_wp2
             replace HO_0 := Aside0.mk (Kd.R_drew HO_0.out)
             replace HO_15 := Aside0.mk (Kd.S_drew HO_15.out)
             replace BK300 := Aside0.mk (blk_drew BK300.out)
             replace HB := Aside0.mk (below_drew1 HB.out)
             have q54 : (x17_5 : Int) ≤ ((t284.length : Int) : Int) := ofDec
             obtain ⟨i054, hi054, _, hsz54, _⟩ := info_parts info53
             have hroom54 : t284.length ≤ co16 := (Kd.R_reads' HO_0.out).2.1
             have hC54 : Kd.C k53 _ (some ad301) t284.length t284 := (Kd.R_reads' HO_0.out).2.2
             have ql54 : (x16_4 : Int) ≤ (x17_5 : Int) := ofDec
             have q054 : (0 : Int) ≤ (x16_4 : Int) := ofDec
             have hcut54 := cut_mid (P := Tryd.prog) 22 53 .i64 .i64 Tryd.underlying22 hi054 4 hsz54 (some ad301) t284.length co16 x16_4 x17_5 q054 ql54 q54 hroom54
             have hr54 := Kd.C_mid (lo := (x16_4 : Int).toNat) (hi := (x17_5 : Int).toNat) (c := co16) hC54 (by omega) (by omega) hroom54
             obtain ⟨A54, hA54⟩ : ∃ A1, A1 = (if co16 = (x16_4 : Int).toNat then (some ad301) else ((some ad301) : Option Addr).map (·.add ((x16_4 : Int).toNat * 4))) := ⟨_, rfl⟩
             obtain ⟨c54, hc54⟩ : ∃ c1, c1 = co16 - (x16_4 : Int).toNat := ⟨_, rfl⟩
             have hy54 : y304.length = (x17_5 : Int).toNat - (x16_4 : Int).toNat := (by rw [Ny304.out, List.length_drop, List.length_take] <;> omega)
             rw [show ((t284).take (x17_5 : Int).toNat).drop (x16_4 : Int).toNat = y304 from Ny304.out.symm] at hr54
             replace hr54 : Kd.C k53 _ A54 y304.length y304 := (by rw [hA54]; exact hr54)
             rw [← hy54, ← hA54, ← hc54] at hcut54
             have HR307 := Aside0.mk hr54
             have HC307 := Aside0.mk (show y304.length ≤ c54 from by rw [hy54, hc54]; exact Nat.sub_le_sub_right (Nat.le_trans (by omega) hroom54) _)
             clear hr54 hC54 hroom54 hi054 hsz54 hc54
             have KY54 := Aside0.mk hy54
             have KA54 := Aside0.mk hA54
             clear hy54 hA54
             have KL54 := Aside0.mk (show (x17_5 : Int).toNat ≤ t284.length from by omega)
             have KM54 := Aside0.mk (show (x16_4 : Int).toNat ≤ (x17_5 : Int).toNat from by omega)
             replace q54 := eq_true q54
             refine start_ (n := 11) (S := fun w' => w'.cell? ⟨gb300, 0, none⟩ = some (.slice A1 l1.length c1) ∧ w'.cell? ⟨gb300, 1, none⟩ = some (.slice A2 l2.length c2)) (ds := []) (Array.replicate 11 false) (by kernel_rfl) rfl rfl ⟨bc BK300 0, bc BK300 1⟩ (fun hHeld => ?_); refine with_tabW hunks_Build.tab24 hunks_Build.bits24 (fun HT_ HW_ => ?_)
             generalize w52.drew = w53 at HO_0 HO_15 BK300 HB HR307 hHeld ⊢
             refine pureT 0 ?_
             refine pureT 2 ?_
             refine pureT 3 ?_
             refine pureT 4 ?_
             refine pureT 5 ?_
             refine pureT 6 ?_
             refine takeT 1 hHeld ?_
             refine oneT (N := some 125) 7 (fun K hK => ?_)
             refine goes_ Tryd.func23 (by kernel_rfl) rfl #[.agg #[.slice A1 l1.length c1, .slice A2 l2.length c2], .slice A54 y304.length c54, .int .i64 a3] (by rfl) rfl rfl argsOk ?_
             with_reducible refine (hunks_builder_hunk.calls k5 _ _ l1 _ _ l2 _ _ y304 a3 t308 t309 t310 t311 t312 t313 _ ?side1 ?side2 ?side3 ?side4 ?side5 ?side6 A50.out).mono ?_
             (case side1 => exact kcU HR1 HB)
             (case side2 => exact HC1.out)
             (case side3 => exact kcU HR2 HB)
             (case side4 => exact HC2.out)
             (case side5 => repeat (first | exact (by repeat (first | (with_reducible exact HR307.out) | (with_reducible refine Kd.C_alloc ?_ _) | (with_reducible refine Kd.C_drewN ?_ _) | (with_reducible refine Kd.C_drew ?_) | exact HR307.out)) | (with_reducible refine Kd.C_alloc ?_ _) | (with_reducible refine Kd.C_drewN ?_ _) | (with_reducible refine Kd.C_drew ?_)))
             (case side6 => exact HC307.out)
             rintro e w55 ⟨v314, rfl, ho0, hb⟩
             refine ⟨_, rfl, ?_⟩
             replace HO_0 := Aside0.mk (Kd.R_below (kdUp HO_0.out) hb)
             replace HO_15 := Aside0.mk (Kd.S_elder' (by (with_reducible repeat (first | apply Kd.S_alloc | apply Kd.S_drewN | apply Kd.S_drew)); exact HO_15.out) (Kd.R_base ho0) hb)
             have HO315 := Aside0.mk (Kd.R_lower ho0 (below_size (belPut)))
             replace BK300 := bkD BK300 hb
             replace HR307 := Aside0.mk (Kd.C_below (by repeat (first | (with_reducible exact HR307.out) | (with_reducible refine Kd.C_alloc ?_ _) | (with_reducible refine Kd.C_drewN ?_ _) | (with_reducible refine Kd.C_drew ?_) | exact HR307.out)) hb)
             replace HB := hbD HB hb
             (try clear hb)
             (try clear hk)
             (try clear ho0)
             obtain ⟨Ao57, co57, eo57⟩ := Kd.R_slice HO315.out
             (first | subst eo57 | (injection eo57 with f1_ f2_ f3_; have f4_ := f1_.symm; have f5_ := f3_.symm; clear f1_ f2_ f3_; subst f4_; subst f5_))
             refine hK.out _ _ ⟨bc BK300 0, bc BK300 1⟩ (fun hHeld => ?_)
             clear hK K
             refine putT ?_
             refine oneT (N := some 126) 8 (fun K hK => ?_)
             refine value_ (w1 := ?_) (v := ?_) (by rfl) rfl ?_ ?_
             rotate_left 2
             ·go_simp
              constructor
              ·rfl
              rfl
             refine hK.out _ _ ⟨(blk_cell (blk_alloc BK300.out _) 0).trans rfl, (blk_cell (blk_alloc BK300.out _) 1).trans rfl⟩ (fun hHeld => ?_)
             clear hK K
             refine putD 126 ?_
             refine oneT (N := some 127) 9 (fun K hK => ?_)
             refine Kd.S_append_step k41 (w0 := w) w.heap.size (by rfl) (.tmp 118) (.tmp 126) 26 41 (.agg #[(.int .i64 0), (.int .i64 0), (.int .i64 0), (.int .i64 0), (.string ⟨#[]⟩), (.slice none 0 0)]) 72 rfl Tryd.underlying26 info41 rfl (by decide) (by omega) u15 x15_4 (⟨t308, t309, t310, t311, t312, t313⟩ : S41) [.int .i64 t308, .int .i64 t309, .int .i64 t310, .int .i64 t311, .string t312, .slice Ao57 t313.length co57] (fun _ => True) (fun k_ => some k_ = (.slice Ao57 t313.length co57 : Value).ownBlock) rfl rfl ?aP (fun k_ hk_ => ((Kd.R_mono (ok' := fun k_ => ((fun _ => True)) k_ ∧ some k_ ≠ (u15 : Value).ownBlock) (Kd.R_apart' (HO315.out) (Kd.S_typed HO_15.out) (by decide)) (fun k_ hk => ⟨trivial, hk.2⟩))).1 k_ hk_.symm) ?aF ?aO ?aB ?aS ?aL ?_
             (case aP => exact k41_mkM _ _ _ (⟨t308, t309, t310, t311, t312, t313⟩ : S41) (Kd.R_mono (Kd.R_tight rfl (Kd.R_mono (ok' := fun k_ => ((fun _ => True)) k_ ∧ some k_ ≠ (u15 : Value).ownBlock) (Kd.R_apart' (HO315.out) (Kd.S_typed HO_15.out) (by decide)) (fun k_ hk => ⟨trivial, hk.2⟩))) (fun _ h_ => h_)))
             (case aB => exact (belPut))
             (case aF => exact (fun _ _ => trivial))
             (case aO => exact (by (with_reducible repeat (first | apply Kd.S_alloc | apply Kd.S_drewN | apply Kd.S_drew)); exact Kd.S_mono HO_15.out (fun k_ hk => ⟨trivial, fun e_ => hk.2 e_⟩)))
             (case aS => exact (below_size (belPut)))
             (case aL => have := LMc51.out; omega)
             intro v317 w56 ho hb hg hat
             rw [← Ny316.out] at ho
             replace BK300 := Aside0.mk (blk_grown (g := gb300) (o := .cells #[.slice A1 l1.length c1, .slice A2 l2.length c2] 62 (0, 0)) (bkUp BK300.out) hg (Kd.S_ne HO_15.out BK300.out (by decide)))
             replace HB := Aside0.mk hb
             replace HR307 := Aside0.mk ((show Kd.C k53 w56 A54 y304.length y304 from by rw [Ny304.out, KA54.out]; exact Kd.C_mid (lo := (x16_4 : Int).toNat) (hi := (x17_5 : Int).toNat) (c := co16) ((Kd.R_reads' (Kd.R_over' (kdUp HO_0.out) (Kd.S_typed (by (with_reducible repeat (first | apply Kd.S_alloc | apply Kd.S_drewN | apply Kd.S_drew)); exact HO_15.out)) (by decide) hg)).2.2) KM54.out KL54.out ((Kd.R_reads' (Kd.R_over' (kdUp HO_0.out) (Kd.S_typed (by (with_reducible repeat (first | apply Kd.S_alloc | apply Kd.S_drewN | apply Kd.S_drew)); exact HO_15.out)) (by decide) hg)).2.1)))
             replace HO_0 := Aside0.mk (Kd.R_over' (kdUp HO_0.out) (Kd.S_typed (by (with_reducible repeat (first | apply Kd.S_alloc | apply Kd.S_drewN | apply Kd.S_drew)); exact HO_15.out)) (by decide) hg)
             have HO318 := Aside0.mk (ho)
             clear HO_15 HO315
             clear ho hb hg hat
             refine hK.out _ _ ⟨bc BK300 0, bc BK300 1⟩ (fun hHeld => ?_)
             clear hK K
             refine putD 127 ?_
             refine pureT 10 ?_
             refine done_ (done_of HT_.out (by kernel_rfl)) ?_
             try go_wp2
             go_roundg k5
             case measure => have := HJ4.out; have := HJ7.out; have := HK3.out; have := HK4.out; have := HK5.out; omega
             case rel => exact ⟨(y316), (x17_5), eqNow, H', ⟨by have := HJ4.out; have := HJ7.out; have := HK3.out; have := HK4.out; have := HK5.out; omega⟩, ⟨kdMv HO_0⟩, ⟨kdMv HO318⟩, ⟨bkUp BK300.out⟩, ⟨belPut⟩⟩
      have H1 : (some (([] : List (S41)), some q293)) = some (r1, r2) := by rw [if_neg (show ¬ (some q293).isNone = true by simp)] at H; exact H
      clear H
      have H := H1
      clear H1
      try simp only [errW_none, errW_some]
      simp only [Option.some.injEq, Prod.mk.injEq] at H
      obtain ⟨rfl, rfl⟩ := H
      go_wp2_with (first | ((with_reducible refine gate_callee (f := 17) rfl ?_); refine goL (some 40) Tryd.func17 #[.slice A0 l0.length c0, .int .i64 (l1.length : Int), .int .i64 (l2.length : Int)] ?_; (with_reducible refine (edits_Normal.calls kj7 _ _ l0 (l1.length : Int) (l2.length : Int) t284 none _ ?side1 ?side2 A13.out).mono ?_); (case side1 => exact kcU HR0 HB); (case side2 => exact HC0.out); rintro e w69 ⟨v286, rfl, ho0, hb⟩; refine ⟨_, rfl, ?_⟩; have HO287 := Aside0.mk (Kd.R_lower ho0 (below_size belNow)); replace HB := hbD HB hb; clear hb; (try clear ho0); (try simp only [errW_none, errW_some]); obtain ⟨Ao70, co70, eo70⟩ := Kd.R_slice HO287.out; subst eo70) | ((with_reducible refine gate_callee (f := 21) rfl ?_); refine goL (some 52) Tryd.func21 #[.slice Ao70 t284.length co70, .int .i64 (l1.length : Int), .int .i64 (l2.length : Int)] ?_; (with_reducible refine (edits_Pairs.calls kj7 _ _ t284 (l1.length : Int) (l2.length : Int) t289 (some q293) _ ?side1 ?side2 A14.out).mono ?_); (case side1 => repeat (first | exact (Kd.R_reads' HO287.out).2.2 | (with_reducible refine Kd.C_alloc ?_ _) | (with_reducible refine Kd.C_drewN ?_ _) | (with_reducible refine Kd.C_drew ?_))); (case side2 => exact (Kd.R_reads' HO287.out).2.1); rintro e w71 ⟨v291, rfl, ho0, hb⟩; refine ⟨_, rfl, ?_⟩; replace HO287 := Aside0.mk (Kd.R_below (kdUp HO287.out) hb); have HO292 := Aside0.mk (Kd.R_lower ho0 (below_size belNow)); replace HB := hbD HB hb; clear hb; (try clear ho0); (try simp only [errW_none, errW_some])))
      go_ret2
      exact ⟨_, eqEnd, kNil, belNow⟩
     have H1 : (some (([] : List (S41)), some q288)) = some (r1, r2) := by rw [if_neg (show ¬ (some q288).isNone = true by simp)] at H; exact H
     clear H
     have H := H1
     clear H1
     try simp only [errW_none, errW_some]
     simp only [Option.some.injEq, Prod.mk.injEq] at H
     obtain ⟨rfl, rfl⟩ := H
     go_wp2_with (first | ((with_reducible refine gate_callee (f := 17) rfl ?_); refine goL (some 40) Tryd.func17 #[.slice A0 l0.length c0, .int .i64 (l1.length : Int), .int .i64 (l2.length : Int)] ?_; (with_reducible refine (edits_Normal.calls kj7 _ _ l0 (l1.length : Int) (l2.length : Int) t284 (some q288) _ ?side1 ?side2 A13.out).mono ?_); (case side1 => exact kcU HR0 HB); (case side2 => exact HC0.out); rintro e w72 ⟨v286, rfl, ho0, hb⟩; refine ⟨_, rfl, ?_⟩; have HO287 := Aside0.mk (Kd.R_lower ho0 (below_size belNow)); replace HB := hbD HB hb; clear hb; (try clear ho0); (try simp only [errW_none, errW_some])))
     go_ret2
     exact ⟨_, eqEnd, kNil, belNow⟩
end Go.Proofs.YtecjoofjiockkaaDoor.Pp
