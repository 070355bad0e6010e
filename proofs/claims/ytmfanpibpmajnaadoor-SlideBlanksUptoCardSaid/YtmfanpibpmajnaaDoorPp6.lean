-- Printed by this session's pp.py over the kit's printer, out of the translation. Lean checks it.
import Derived.Test.YtmfanpibpmajnaaDoorESq
import Derived.Test.YtmfanpibpmajnaaDoorPp0
import Derived.Test.YtmfanpibpmajnaaDoorPp4
import Derived.Test.YtmfanpibpmajnaaDoorPp5
import Derived.Test.YtmfanpibpmajnaaDoorEFits
namespace Go.Proofs.YtmfanpibpmajnaaDoor.Pp
open Go.RowKit Go.Proofs.YtmfanpibpmajnaaDoor.Ext Go.Proofs.YtmfanpibpmajnaaDoorW.PrintWords Go.Proofs.YtmfanpibpmajnaaDoorW.PrintLast Go.Proofs.YtmfanpibpmajnaaDoorW.PrintMore
attribute [local go_sem] max2_int min2_int max_two min_two max_three min_three max_four min_four   -- for this text's walks alone
set_option linter.unusedVariables false
set_option linter.unusedSimpArgs false
mutual
def slide_Slide.l0 : Nat → List Int → List Int → List (S43) → List (S43) → Int → Option ((List (S43)) × Option Int)
 | 0, _, _, _, _, _ => none
 | k + 1, x1, x2, x9, x11, x12 => if x12 ≥ 0 then (if 0 ≤ x12 then (if x12 < (x9.length : Int) then (if (x11.length : Int) > 0 then (if 0 ≤ (wrap64 ((x11.length : Int) - 1)) then (if (wrap64 ((x11.length : Int) - 1)) < (x11.length : Int) then (slide_Slide.j1 k x1 x2 x9 x11 x12 ((rd_T43 x11 (wrap64 ((x11.length : Int) - 1))).f0) ((rd_T43 x11 (wrap64 ((x11.length : Int) - 1))).f2) ((rd_T43 x9 x12).f0) ((rd_T43 x9 x12).f1) ((rd_T43 x9 x12).f2) ((rd_T43 x9 x12).f3)) else (none)) else (none)) else (slide_Slide.j1 k x1 x2 x9 x11 x12 (x1.length : Int) (x2.length : Int) ((rd_T43 x9 x12).f0) ((rd_T43 x9 x12).f1) ((rd_T43 x9 x12).f2) ((rd_T43 x9 x12).f3))) else (none)) else (none)) else (slide_Slide.l2 k x11 ([] : List (S43)) (wrap64 ((x11.length : Int) - 1)))
def slide_Slide.j1 : Nat → List Int → List Int → List (S43) → List (S43) → Int → Int → Int → Int → Int → Int → Int → Option ((List (S43)) × Option Int)
 | 0, _, _, _, _, _, _, _, _, _, _, _ => none
 | k + 1, x1, x2, x9, x11, x12, x14, x15, x137000, x137001, x137002, x137003 => slide_Slide.l1 k x1 x2 x9 x11 x12 x14 x15 x137000 x137001 x137002 x137003
def slide_Slide.l1 : Nat → List Int → List Int → List (S43) → List (S43) → Int → Int → Int → Int → Int → Int → Int → Option ((List (S43)) × Option Int)
 | 0, _, _, _, _, _, _, _, _, _, _, _ => none
 | k + 1, x1, x2, x9, x11, x12, x14, x15, x137000, x137001, x137002, x137003 => (slide_slides.f k x137000 x137001 x137002 x137003 x1 x2 x14 x15).bind fun t139 => (if t139 = true then (slide_Slide.l1 k x1 x2 x9 x11 x12 x14 x15 (wrap64 (x137000 + 1)) x137001 (wrap64 (x137002 + 1)) x137003) else (if (x11.length : Int) > 0 then (if (wrap64 (x137000 + x137001)) = x14 then (if 0 ≤ (wrap64 ((x11.length : Int) - 1)) then (if (wrap64 ((x11.length : Int) - 1)) < (x11.length : Int) then (slide_Slide.l0 k x1 x2 x9 (x11.set ((wrap64 ((x11.length : Int) - 1)) : Int).toNat (⟨x137000, wrap64 (x137001 + ((rd_T43 x11 (wrap64 ((x11.length : Int) - 1))).f1)), x137002, wrap64 (x137003 + ((rd_T43 x11 (wrap64 ((x11.length : Int) - 1))).f3))⟩ : S43)) (wrap64 (x12 - 1))) else (none)) else (none)) else (if x11.length < 4398046511104 then (slide_Slide.l0 k x1 x2 x9 (x11 ++ [(⟨x137000, x137001, x137002, x137003⟩ : S43)]) (wrap64 (x12 - 1))) else (none))) else (if x11.length < 4398046511104 then (slide_Slide.l0 k x1 x2 x9 (x11 ++ [(⟨x137000, x137001, x137002, x137003⟩ : S43)]) (wrap64 (x12 - 1))) else (none))))
def slide_Slide.l2 : Nat → List (S43) → List (S43) → Int → Option ((List (S43)) × Option Int)
 | 0, _, _, _ => none
 | k + 1, x11, x17, x18 => if x18 ≥ 0 then (if 0 ≤ x18 then (if x18 < (x11.length : Int) then (if x17.length < 4398046511104 then (slide_Slide.l2 k x11 (x17 ++ [(⟨(rd_T43 x11 x18).f0, (rd_T43 x11 x18).f1, (rd_T43 x11 x18).f2, (rd_T43 x11 x18).f3⟩ : S43)]) (wrap64 (x18 - 1))) else (none)) else (none)) else (none)) else (some (x17, none))
end
def slide_Slide.f (k : Nat) (l0 : List (S43)) (l1 : List Int) (l2 : List Int) : Option ((List (S43)) × Option Int) := (edits_Fits.f k l0 l1 l2).bind fun t128 => (if t128.isNone = true then ((edits_Normal.f k l0 (l1.length : Int) (l2.length : Int)).bind fun bt130 => (if bt130.2.isNone = true then (slide_Slide.l0 k l1 l2 bt130.1 ([] : List (S43)) (wrap64 ((bt130.1.length : Int) - 1))) else (some (([] : List (S43)), some (bt130.2.getD 0))))) else (some (([] : List (S43)), some (t128.getD 0))))
theorem slide_Slide.mono_l : ∀ k, (∀ y0 y1 y2 y3 y4, LeO (slide_Slide.l0 k y0 y1 y2 y3 y4) (slide_Slide.l0 (k + 1) y0 y1 y2 y3 y4)) ∧ (∀ y0 y1 y2 y3 y4 y5 y6 y7 y8 y9 y10, LeO (slide_Slide.j1 k y0 y1 y2 y3 y4 y5 y6 y7 y8 y9 y10) (slide_Slide.j1 (k + 1) y0 y1 y2 y3 y4 y5 y6 y7 y8 y9 y10)) ∧ (∀ y0 y1 y2 y3 y4 y5 y6 y7 y8 y9 y10, LeO (slide_Slide.l1 k y0 y1 y2 y3 y4 y5 y6 y7 y8 y9 y10) (slide_Slide.l1 (k + 1) y0 y1 y2 y3 y4 y5 y6 y7 y8 y9 y10)) ∧ (∀ y0 y1 y2, LeO (slide_Slide.l2 k y0 y1 y2) (slide_Slide.l2 (k + 1) y0 y1 y2))
 | 0 => ⟨fun _ _ _ _ _ r h => by simp [slide_Slide.l0] at h, fun _ _ _ _ _ _ _ _ _ _ _ r h => by simp [slide_Slide.j1] at h, fun _ _ _ _ _ _ _ _ _ _ _ r h => by simp [slide_Slide.l1] at h, fun _ _ _ r h => by simp [slide_Slide.l2] at h⟩
 | k + 1 => by
  obtain ⟨ih0, ih1, ih2, ih3⟩ := slide_Slide.mono_l k
  refine ⟨?_, ?_, ?_, ?_⟩
  ·intro y0 y1 y2 y3 y4
   unfold slide_Slide.l0
   repeat' first
   | (with_reducible exact ih0 _ _ _ _ _)
   | (with_reducible exact ih1 _ _ _ _ _ _ _ _ _ _ _)
   | (with_reducible exact ih2 _ _ _ _ _ _ _ _ _ _ _)
   | (with_reducible exact ih3 _ _ _)
   | (with_reducible exact edits_Fits.mono _ _ _ _)
   | (with_reducible exact edits_Normal.mono _ _ _ _)
   | (with_reducible exact slide_slides.mono _ _ _ _ _ _ _ _ _)
   | (with_reducible exact LeO.refl _)
   | (with_reducible exact LeO.none _)
   | (with_reducible refine LeO.ite ?_ ?_)
   | (with_reducible refine LeO.bind ?_ (fun _ => ?_))
   | exact ih0 _ _ _ _ _
   | exact ih1 _ _ _ _ _ _ _ _ _ _ _
   | exact ih2 _ _ _ _ _ _ _ _ _ _ _
   | exact ih3 _ _ _
   | exact edits_Fits.mono _ _ _ _
   | exact edits_Normal.mono _ _ _ _
   | exact slide_slides.mono _ _ _ _ _ _ _ _ _
   | exact LeO.none _
   | refine LeO.ite ?_ ?_
   | refine LeO.bind ?_ (fun _ => ?_)
  ·intro y0 y1 y2 y3 y4 y5 y6 y7 y8 y9 y10
   unfold slide_Slide.j1
   repeat' first
   | (with_reducible exact ih0 _ _ _ _ _)
   | (with_reducible exact ih1 _ _ _ _ _ _ _ _ _ _ _)
   | (with_reducible exact ih2 _ _ _ _ _ _ _ _ _ _ _)
   | (with_reducible exact ih3 _ _ _)
   | (with_reducible exact edits_Fits.mono _ _ _ _)
   | (with_reducible exact edits_Normal.mono _ _ _ _)
   | (with_reducible exact slide_slides.mono _ _ _ _ _ _ _ _ _)
   | (with_reducible exact LeO.refl _)
   | (with_reducible exact LeO.none _)
   | (with_reducible refine LeO.ite ?_ ?_)
   | (with_reducible refine LeO.bind ?_ (fun _ => ?_))
   | exact ih0 _ _ _ _ _
   | exact ih1 _ _ _ _ _ _ _ _ _ _ _
   | exact ih2 _ _ _ _ _ _ _ _ _ _ _
   | exact ih3 _ _ _
   | exact edits_Fits.mono _ _ _ _
   | exact edits_Normal.mono _ _ _ _
   | exact slide_slides.mono _ _ _ _ _ _ _ _ _
   | exact LeO.none _
   | refine LeO.ite ?_ ?_
   | refine LeO.bind ?_ (fun _ => ?_)
  ·intro y0 y1 y2 y3 y4 y5 y6 y7 y8 y9 y10
   unfold slide_Slide.l1
   repeat' first
   | (with_reducible exact ih0 _ _ _ _ _)
   | (with_reducible exact ih1 _ _ _ _ _ _ _ _ _ _ _)
   | (with_reducible exact ih2 _ _ _ _ _ _ _ _ _ _ _)
   | (with_reducible exact ih3 _ _ _)
   | (with_reducible exact edits_Fits.mono _ _ _ _)
   | (with_reducible exact edits_Normal.mono _ _ _ _)
   | (with_reducible exact slide_slides.mono _ _ _ _ _ _ _ _ _)
   | (with_reducible exact LeO.refl _)
   | (with_reducible exact LeO.none _)
   | (with_reducible refine LeO.ite ?_ ?_)
   | (with_reducible refine LeO.bind ?_ (fun _ => ?_))
   | exact ih0 _ _ _ _ _
   | exact ih1 _ _ _ _ _ _ _ _ _ _ _
   | exact ih2 _ _ _ _ _ _ _ _ _ _ _
   | exact ih3 _ _ _
   | exact edits_Fits.mono _ _ _ _
   | exact edits_Normal.mono _ _ _ _
   | exact slide_slides.mono _ _ _ _ _ _ _ _ _
   | exact LeO.none _
   | refine LeO.ite ?_ ?_
   | refine LeO.bind ?_ (fun _ => ?_)
  ·intro y0 y1 y2
   unfold slide_Slide.l2
   repeat' first
   | (with_reducible exact ih0 _ _ _ _ _)
   | (with_reducible exact ih1 _ _ _ _ _ _ _ _ _ _ _)
   | (with_reducible exact ih2 _ _ _ _ _ _ _ _ _ _ _)
   | (with_reducible exact ih3 _ _ _)
   | (with_reducible exact edits_Fits.mono _ _ _ _)
   | (with_reducible exact edits_Normal.mono _ _ _ _)
   | (with_reducible exact slide_slides.mono _ _ _ _ _ _ _ _ _)
   | (with_reducible exact LeO.refl _)
   | (with_reducible exact LeO.none _)
   | (with_reducible refine LeO.ite ?_ ?_)
   | (with_reducible refine LeO.bind ?_ (fun _ => ?_))
   | exact ih0 _ _ _ _ _
   | exact ih1 _ _ _ _ _ _ _ _ _ _ _
   | exact ih2 _ _ _ _ _ _ _ _ _ _ _
   | exact ih3 _ _ _
   | exact edits_Fits.mono _ _ _ _
   | exact edits_Normal.mono _ _ _ _
   | exact slide_slides.mono _ _ _ _ _ _ _ _ _
   | exact LeO.none _
   | refine LeO.ite ?_ ?_
   | refine LeO.bind ?_ (fun _ => ?_)
theorem slide_Slide.mono : ∀ a0 a1 a2 k, LeO (slide_Slide.f k a0 a1 a2) (slide_Slide.f (k + 1) a0 a1 a2) := by
 intro a0 a1 a2 k
 obtain ⟨ih0, ih1, ih2, ih3⟩ := slide_Slide.mono_l k
 unfold slide_Slide.f
 repeat' first
   | (with_reducible exact ih0 _ _ _ _ _)
   | (with_reducible exact ih1 _ _ _ _ _ _ _ _ _ _ _)
   | (with_reducible exact ih2 _ _ _ _ _ _ _ _ _ _ _)
   | (with_reducible exact ih3 _ _ _)
   | (with_reducible exact edits_Fits.mono _ _ _ _)
   | (with_reducible exact edits_Normal.mono _ _ _ _)
   | (with_reducible exact slide_slides.mono _ _ _ _ _ _ _ _ _)
   | (with_reducible exact LeO.refl _)
   | (with_reducible exact LeO.none _)
   | (with_reducible refine LeO.ite ?_ ?_)
   | (with_reducible refine LeO.bind ?_ (fun _ => ?_))
   | exact ih0 _ _ _ _ _
   | exact ih1 _ _ _ _ _ _ _ _ _ _ _
   | exact ih2 _ _ _ _ _ _ _ _ _ _ _
   | exact ih3 _ _ _
   | exact edits_Fits.mono _ _ _ _
   | exact edits_Normal.mono _ _ _ _
   | exact slide_slides.mono _ _ _ _ _ _ _ _ _
   | exact LeO.none _
   | refine LeO.ite ?_ ?_
   | refine LeO.bind ?_ (fun _ => ?_)
def slide_Slide.T14 : Bool × List (List Nat × List Nat) := (true, [([], []), ([], []), ([1], [1]), ([2], [2]), ([0, 3], [0, 3]), ([4], [4]), ([5], [5]), ([], []), ([], []), ([8], [8]), ([9], [9]), ([7, 10], [7, 10]), ([11], [11]), ([12], [12]), ([6, 0, 1, 2, 3, 4, 5, 6], [6]), ([13, 14, 0, 1, 2, 3, 4, 5, 6, 7, 8, 9, 10, 11, 12, 13, 14], [13])])
def slide_Slide.B14 : List Nat := [0, 0, 2, 6, 15, 31, 63, 0, 0, 256, 768, 1920, 3968, 8064, 127, 32767]
theorem slide_Slide.tab14 : rtab .any (opsOf Tryd.f7 14) = slide_Slide.T14 := by kernel_rfl
theorem slide_Slide.bits14 : waitsOk slide_Slide.T14.2 slide_Slide.B14 = true := by kernel_rfl
def slide_Slide.T20 : Bool × List (List Nat × List Nat) := (true, [([], []), ([], []), ([1], [1]), ([], []), ([3], [3]), ([], []), ([5], [5]), ([6], [6]), ([7], [7]), ([4, 8], [4, 8]), ([], []), ([10], [10]), ([], []), ([12], [12]), ([], []), ([14], [14]), ([15], [15]), ([16], [16]), ([13, 17], [13, 17]), ([2, 9, 11, 18], [2, 9, 11, 18]), ([0, 0, 1, 2, 3, 4, 5, 6, 7, 8, 9, 10, 11, 12, 13, 14, 15, 16, 17, 18, 19], [0]), ([20, 19, 0, 1, 2, 3, 4, 5, 6, 7, 8, 9, 10, 11, 12, 13, 14, 15, 16, 17, 18, 19], [19, 20])])
def slide_Slide.B20 : List Nat := [0, 0, 2, 0, 8, 0, 32, 96, 224, 504, 0, 1024, 0, 4096, 0, 16384, 49152, 114688, 258048, 524286, 1048575, 2097151]
theorem slide_Slide.tab20 : rtab .any (opsOf Tryd.f7 20) = slide_Slide.T20 := by kernel_rfl
theorem slide_Slide.bits20 : waitsOk slide_Slide.T20.2 slide_Slide.B20 = true := by kernel_rfl
set_option maxHeartbeats 80000000 in
set_option maxRecDepth 100000 in
theorem slide_Slide.calls (k : Nat) (A0 : Option Addr) (c0 : Nat) (l0 : List (S43)) (A1 : Option Addr) (c1 : Nat) (l1 : List Int) (A2 : Option Addr) (c2 : Nat) (l2 : List Int) (r1 : List (S43)) (r2 : Option Int) (w : World) (hr0 : Kd.C k43 w A0 l0.length l0) (hc0 : l0.length ≤ c0) (hr1 : Kd.C (Kd.int .i64) w A1 l1.length l1) (hc1 : l1.length ≤ c1) (hr2 : Kd.C (Kd.int .i64) w A2 l2.length l2) (hc2 : l2.length ≤ c2) (h : slide_Slide.f k l0 l1 l2 = some (r1, r2)) :
  Calls Tryd.prog 7 #[.slice A0 l0.length c0, .slice A1 l1.length c1, .slice A2 l2.length c2] w fun e w' => ∃ v0_ : Value, e = .returned (.tuple #[v0_, errW r2]) ∧ Kd.R k43 43 w' w.heap.size (fun _ => True) v0_ r1 ∧ Below w.heap.size w w' := by
 have hu43 := Tryd.underlying43
 have hu25 := Tryd.underlying25
 have hu49 := Tryd.underlying49
 have HR0 := Aside0.mk hr0
 have HC0 := Aside0.mk hc0
 clear hr0 hc0
 have HR1 := Aside0.mk hr1
 have HC1 := Aside0.mk hc1
 clear hr1 hc1
 have HR2 := Aside0.mk hr2
 have HC2 := Aside0.mk hc2
 clear hr2 hc2
 have HB := Aside0.mk (Below.refl w.heap.size w)
 have H : ((edits_Fits.f k l0 l1 l2).bind fun t128 => (if t128.isNone = true then ((edits_Normal.f k l0 (l1.length : Int) (l2.length : Int)).bind fun bt130 => (if bt130.2.isNone = true then (slide_Slide.l0 k l1 l2 bt130.1 ([] : List (S43)) (wrap64 ((bt130.1.length : Int) - 1))) else (some (([] : List (S43)), some (bt130.2.getD 0))))) else (some (([] : List (S43)), some (t128.getD 0))))) = some (r1, r2) := h
 clear h
 replace H := Option.bind_eq_some_iff.mp H
 obtain ⟨t128, A40, H⟩ := H
 replace H : (if t128.isNone = true then ((edits_Normal.f k l0 (l1.length : Int) (l2.length : Int)).bind fun bt130 => (if bt130.2.isNone = true then (slide_Slide.l0 k l1 l2 bt130.1 ([] : List (S43)) (wrap64 ((bt130.1.length : Int) - 1))) else (some (([] : List (S43)), some (bt130.2.getD 0))))) else (some (([] : List (S43)), some (t128.getD 0)))) = some (r1, r2) := H
 have A4 := Aside0.mk A40
 clear A40
 rcases t128 with _ | q129
 ·have H1 : ((edits_Normal.f k l0 (l1.length : Int) (l2.length : Int)).bind fun bt130 => (if bt130.2.isNone = true then (slide_Slide.l0 k l1 l2 bt130.1 ([] : List (S43)) (wrap64 ((bt130.1.length : Int) - 1))) else (some (([] : List (S43)), some (bt130.2.getD 0))))) = some (r1, r2) := by rw [if_pos (show (none : Option Int).isNone = true by rfl)] at H; exact H
  clear H
  have H := H1
  clear H1
  try simp only [errW_none, errW_some]
  replace H := Option.bind_eq_some_iff.mp H
  obtain ⟨⟨t130, t131⟩, A50, H⟩ := H
  replace H : (if t131.isNone = true then (slide_Slide.l0 k l1 l2 t130 ([] : List (S43)) (wrap64 ((t130.length : Int) - 1))) else (some (([] : List (S43)), some (t131.getD 0)))) = some (r1, r2) := H
  have A5 := Aside0.mk A50
  clear A50
  rcases t131 with _ | q134
  ·have H1 : (slide_Slide.l0 k l1 l2 t130 ([] : List (S43)) (wrap64 ((t130.length : Int) - 1))) = some (r1, r2) := by rw [if_pos (show (none : Option Int).isNone = true by rfl)] at H; exact H
   clear H
   have H := H1
   clear H1
   try simp only [errW_none, errW_some]
   have H' := Aside0.mk H
   clear H
   go_enter Tryd.func7, Tryd.ntmps7
   try simp only [List.append_eq, List.cons_append, List.nil_append]
   go_wp2_with (first | ((with_reducible refine gate_callee (f := 17) rfl ?_); refine goesL_ (some 22) rfl rfl Tryd.func17 (by kernel_rfl) rfl #[.slice A0 l0.length c0, .slice A1 l1.length c1, .slice A2 l2.length c2] rfl argsOk ?_; (with_reducible refine (edits_Fits.calls k _ _ l0 _ _ l1 _ _ l2 none _ ?side1 ?side2 ?side3 ?side4 ?side5 ?side6 A4.out).mono ?_); (case side1 => repeat (first | exact HR0.out | (with_reducible refine Kd.C_alloc ?_ _) | (with_reducible refine Kd.C_drewN ?_ _) | (with_reducible refine Kd.C_drew ?_))); (case side2 => exact HC0.out); (case side3 => repeat (first | exact HR1.out | (with_reducible refine Kd.C_alloc ?_ _) | (with_reducible refine Kd.C_drewN ?_ _) | (with_reducible refine Kd.C_drew ?_))); (case side4 => exact HC1.out); (case side5 => repeat (first | exact HR2.out | (with_reducible refine Kd.C_alloc ?_ _) | (with_reducible refine Kd.C_drewN ?_ _) | (with_reducible refine Kd.C_drew ?_))); (case side6 => exact HC2.out); rintro e w6 ⟨rfl, hb⟩; refine ⟨_, rfl, ?_⟩; have n0_ := Aside0.mk (below_step belNow hb); clear HB; have HB := n0_; clear n0_; (try clear hb); (try clear hb2); (try clear hk); (try clear hi); (try simp only [errW_none, errW_some])) | ((with_reducible refine gate_callee (f := 18) rfl ?_); refine goesL_ (some 32) rfl rfl Tryd.func18 (by kernel_rfl) rfl #[.slice A0 l0.length c0, .int .i64 (l1.length : Int), .int .i64 (l2.length : Int)] rfl argsOk ?_; (with_reducible refine (edits_Normal.calls k _ _ l0 (l1.length : Int) (l2.length : Int) t130 none _ ?side1 ?side2 A5.out).mono ?_); (case side1 => repeat (first | exact (Kd.C_below HR0.out HB.out) | (with_reducible refine Kd.C_alloc ?_ _) | (with_reducible refine Kd.C_drewN ?_ _) | (with_reducible refine Kd.C_drew ?_))); (case side2 => exact HC0.out); rintro e w7 ⟨v132, rfl, ho0, hb⟩; refine ⟨_, rfl, ?_⟩; have n0_ := Aside0.mk (Kd.R_lower ho0 (below_size belNow)); have n1_ := Aside0.mk (below_step belNow hb); clear HB; have HO133 := n0_; have HB := n1_; clear n0_ n1_; (try clear hb); (try clear hb2); (try clear hk); (try clear hi); (try clear ho0); (try simp only [errW_none, errW_some]); obtain ⟨Ao8, co8, eo8⟩ := Kd.R_slice HO133.out; subst eo8))
   go_loopg [11, 12] k (fun kq v11 v12 w' => ∃ (x11_1 : List (S43)) (x12_1 : Int), v12 = .int .i64 x12_1 ∧ Aside0 (slide_Slide.l0 kq l1 l2 t130 x11_1 x12_1 = some (r1, r2)) ∧ Aside0 (kq ≤ k) ∧ Aside0 (Kd.R k43 43 w' w.heap.size (fun k_ => some k_ ≠ (v11 : Value).ownBlock) (.slice Ao8 t130.length co8) t130) ∧ Aside0 (Kd.R k43 43 w' w.heap.size (fun k_ => some k_ ≠ ((.slice Ao8 t130.length co8) : Value).ownBlock) v11 x11_1) ∧ Aside0 (Below w.heap.size w w'))
   case atStart => exact ⟨(([] : List (S43))), (wrap64 ((t130.length : Int) - 1)), eqNow, H', ⟨Nat.le_refl _⟩, ⟨by (with_reducible repeat (first | apply Kd.R_alloc | apply Kd.R_drewN | apply Kd.R_drew)); exact Kd.R_mono HO133.out (fun _ hk => (by simp [Value.ownBlock]))⟩, ⟨by first | exact Kd.R_nil _ _ _ _ _ | exact Kd.N_nil _ _ _ _ _ | exact Kd.V_nil _ _ _ _ _ | exact Kd.Q_nil _ _ _ _ _ | exact Kd.S_nil _ _ _ _ _⟩, ⟨belNow⟩⟩
   case round =>
    clear H'
    try clear c1
    try clear q1
    try clear c2
    try clear p2
    try clear p6
    try clear c7
    try clear q129
    try clear q134
    obtain ⟨x11_1, x12_1, rfl, HA, HK1, HO_9, HO_11, HB⟩ := hrel
    cases gk with
    | zero => exact absurd HA.out (by simp [slide_Slide.l0])
    | succ k1 =>
     have H := HA.out
     clear HA
     simp only [slide_Slide.l0] at H
     by_cases c9 : x12_1 ≥ 0
     ·rw [if_pos c9] at H
      have c9b0 : decide (0 ≤ x12_1) = true := decide_eq_true c9
      clear c9
      by_cases c10 : 0 ≤ x12_1
      ·rw [if_pos c10] at H
       have c10b0 : decide (0 ≤ x12_1) = true := decide_eq_true c10
       clear c10
       by_cases c11 : x12_1 < (t130.length : Int)
       ·rw [if_pos c11] at H
        have c11b0 : decide (x12_1 < (t130.length : Int)) = true := decide_eq_true c11
        clear c11
        have HC12 := Aside0.mk H
        clear H
        have p135 : 0 ≤ (x12_1 : Int) := ofDec
        have q135 : x12_1 < (t130.length : Int) := ofDec
        obtain ⟨ad135, e135, hx135_0, hx135_1, hx135_2, hx135_3⟩ := at_T43 (Kd.R_reads' HO_9.out).2.2 x12_1 p135 q135
        cases e135
        replace p135 := eq_true p135
        replace q135 := eq_true q135
        go_upto_if 55 with (first | ((with_reducible refine gate_dst (N := 13) rfl ?_); refine box_event ?hg (N := 13) ?hd (cs := #[.int .i64 0, .int .i64 0, .int .i64 0, .int .i64 0]) (t := 43) ?hr ?_; (case hd => rfl); (case hg => rfl); (case hr => first | (go_simp; done) | (go_simp; rfl)); intro gb136 hg w13 hbox hb; have n0_ := Aside0.mk (Kd.R_below (Kd.R_elderB (kdUp HO_9.out) gb136 (Nat.le_of_eq hg.symm)) hb); have n1_ := Aside0.mk (Kd.R_below (Kd.R_elderB (kdUp HO_11.out) gb136 (Nat.le_of_eq hg.symm)) hb); have n2_ := Aside0.mk (below_step belNow hb); have n3_ := Aside0.mk (hbox); have n4_ := Aside0.mk ((by rw [hg]; exact (below_size belNow) : w.heap.size ≤ gb136)); have n5_ := Aside0.mk ((by rw [hg]; exact (below_size belNow) : w.heap.size ≤ gb136)); clear HO_9; clear HO_11; clear HB; have HO_9 := n0_; have HO_11 := n1_; have HB := n2_; have BK136 := n3_; have GW136 := n4_; have GE136 := n5_; clear n0_ n1_ n2_ n3_ n4_ n5_; clear hb hbox hg; have hcz14_0 : w13.cell? ⟨gb136, 0, none⟩ = some (.int .i64 0) := (blk_cell BK136.out 0).trans rfl; have hcz14_1 : w13.cell? ⟨gb136, 1, none⟩ = some (.int .i64 0) := (blk_cell BK136.out 1).trans rfl; have hcz14_2 : w13.cell? ⟨gb136, 2, none⟩ = some (.int .i64 0) := (blk_cell BK136.out 2).trans rfl; have hcz14_3 : w13.cell? ⟨gb136, 3, none⟩ = some (.int .i64 0) := (blk_cell BK136.out 3).trans rfl; have hfz14_0 := blk_frozen BK136.out 0; have hfz14_1 := blk_frozen BK136.out 1; have hfz14_2 := blk_frozen BK136.out 2; have hfz14_3 := blk_frozen BK136.out 3; obtain ⟨Ao15, co15, eo15⟩ := Kd.R_slice HO_11.out; subst eo15))
        (try simp only [Act.put, List.setIfInBounds_toArray, List.set_cons_zero, List.set_cons_succ])
        go_cut [14, 15] (fun v14 v15 wc => ∃ (kq : Nat) (x14_11 : Int) (x15_11 : Int), v14 = .int .i64 x14_11 ∧ v15 = .int .i64 x15_11 ∧ Aside0 (slide_Slide.j1 kq l1 l2 t130 x11_1 x12_1 x14_11 x15_11 ((rd_T43 t130 x12_1).f0) ((rd_T43 t130 x12_1).f1) ((rd_T43 t130 x12_1).f2) ((rd_T43 t130 x12_1).f3) = some (r1, r2)) ∧ Aside0 (kq ≤ k1) ∧ Aside0 (Kd.R k43 43 wc w.heap.size (fun k_ => some k_ ≠ ((.slice Ao15 x11_1.length co15) : Value).ownBlock ∧ k_ ≠ gb136) (.slice (some ad135) t130.length co8) t130) ∧ Aside0 (Kd.R k43 43 wc w.heap.size (fun k_ => some k_ ≠ ((.slice (some ad135) t130.length co8) : Value).ownBlock ∧ k_ ≠ gb136) (.slice Ao15 x11_1.length co15) x11_1) ∧ Aside0 (wc.heap[gb136]? = some (.cells #[.int .i64 ((rd_T43 t130 x12_1).f0), .int .i64 ((rd_T43 t130 x12_1).f1), .int .i64 ((rd_T43 t130 x12_1).f2), .int .i64 ((rd_T43 t130 x12_1).f3)] 43 (0, 0))) ∧ Aside0 (Below w.heap.size w wc))
        case first =>
         have H := HC12.out
         clear HC12
         by_cases c16 : (x11_1.length : Int) > 0
         ·rw [if_pos c16] at H
          have c16b0 : decide (0 < (x11_1.length : Int)) = true := decide_eq_true c16
          have c16b1 : decide (0 < x11_1.length) = true := decide_eq_true (by omega)
          have c16b2 : 0 < x11_1.length := of_decide_eq_true c16b1
          clear c16
          (first | rw [c16b0] | (simp only [i64_w, i32_w]; rw [c16b0]) | skip)
          obtain ⟨ji17, hji17⟩ : ∃ j_ : Int, (wrap64 ((x11_1.length : Int) - 1)) = j_ := ⟨_, rfl⟩
          replace H : (if 0 ≤ (ji17) then (if (ji17) < (x11_1.length : Int) then (slide_Slide.j1 k1 l1 l2 t130 x11_1 x12_1 ((rd_T43 x11_1 (ji17)).f0) ((rd_T43 x11_1 (ji17)).f2) ((rd_T43 t130 x12_1).f0) ((rd_T43 t130 x12_1).f1) ((rd_T43 t130 x12_1).f2) ((rd_T43 t130 x12_1).f3)) else (none)) else (none)) = some (r1, r2) := by first | (rw [hji17] at H; exact H) | (simp only [hji17] at H ⊢; exact H)
          have hji17w : (IntKind.i64.wrap ((x11_1.length : Int) - 1)) = ji17 := (i64_w _).trans hji17
          by_cases c18 : 0 ≤ (ji17)
          ·rw [if_pos c18] at H
           have c18b0 : decide (0 ≤ (ji17)) = true := decide_eq_true c18
           clear c18
           by_cases c19 : (ji17) < (x11_1.length : Int)
           ·rw [if_pos c19] at H
            have c19b0 : decide ((ji17) < (x11_1.length : Int)) = true := decide_eq_true c19
            clear c19
            have H' := Aside0.mk H
            clear H
            try go_wp2
            have n0_ : Aside0 (Kd.R k43 43 ((((w13.setCell ⟨gb136, 0, none⟩ (.int .i64 ((rd_T43 t130 x12_1).f0))).setCell ⟨gb136, 1, none⟩ (.int .i64 ((rd_T43 t130 x12_1).f1))).setCell ⟨gb136, 2, none⟩ (.int .i64 ((rd_T43 t130 x12_1).f2))).setCell ⟨gb136, 3, none⟩ (.int .i64 ((rd_T43 t130 x12_1).f3))) w.heap.size (fun k_ => some k_ ≠ (.slice Ao15 x11_1.length co15 : Value).ownBlock ∧ k_ ≠ gb136) (.slice (some ad135) t130.length co8) t130) := ⟨by (with_reducible repeat (first | apply Kd.R_alloc | apply Kd.R_drewN | apply Kd.R_drew)); exact Kd.R_mono (Kd.R_far (p := ⟨gb136, 3, none⟩) (Kd.R_far (p := ⟨gb136, 2, none⟩) (Kd.R_far (p := ⟨gb136, 1, none⟩) (Kd.R_far (p := ⟨gb136, 0, none⟩) (Kd.R_mono HO_9.out (fun k_ hk => (⟨hk, hk.2⟩ : _ ∧ k_ ≠ gb136))) (fun _ hk => hk.2) (.int .i64 ((rd_T43 t130 x12_1).f0))) (fun _ hk => hk.2) (.int .i64 ((rd_T43 t130 x12_1).f1))) (fun _ hk => hk.2) (.int .i64 ((rd_T43 t130 x12_1).f2))) (fun _ hk => hk.2) (.int .i64 ((rd_T43 t130 x12_1).f3))) (fun _ hk => ⟨hk.1.1, hk.1.2⟩)⟩
            have n1_ : Aside0 (Kd.R k43 43 ((((w13.setCell ⟨gb136, 0, none⟩ (.int .i64 ((rd_T43 t130 x12_1).f0))).setCell ⟨gb136, 1, none⟩ (.int .i64 ((rd_T43 t130 x12_1).f1))).setCell ⟨gb136, 2, none⟩ (.int .i64 ((rd_T43 t130 x12_1).f2))).setCell ⟨gb136, 3, none⟩ (.int .i64 ((rd_T43 t130 x12_1).f3))) w.heap.size (fun k_ => some k_ ≠ (.slice (some ad135) t130.length co8 : Value).ownBlock ∧ k_ ≠ gb136) (.slice Ao15 x11_1.length co15) x11_1) := ⟨by (with_reducible repeat (first | apply Kd.R_alloc | apply Kd.R_drewN | apply Kd.R_drew)); exact Kd.R_mono (Kd.R_far (p := ⟨gb136, 3, none⟩) (Kd.R_far (p := ⟨gb136, 2, none⟩) (Kd.R_far (p := ⟨gb136, 1, none⟩) (Kd.R_far (p := ⟨gb136, 0, none⟩) (Kd.R_mono HO_11.out (fun k_ hk => (⟨hk, hk.2⟩ : _ ∧ k_ ≠ gb136))) (fun _ hk => hk.2) (.int .i64 ((rd_T43 t130 x12_1).f0))) (fun _ hk => hk.2) (.int .i64 ((rd_T43 t130 x12_1).f1))) (fun _ hk => hk.2) (.int .i64 ((rd_T43 t130 x12_1).f2))) (fun _ hk => hk.2) (.int .i64 ((rd_T43 t130 x12_1).f3))) (fun _ hk => ⟨hk.1.1, hk.1.2⟩)⟩
            have n2_ : Aside0 (((((w13.setCell ⟨gb136, 0, none⟩ (.int .i64 ((rd_T43 t130 x12_1).f0))).setCell ⟨gb136, 1, none⟩ (.int .i64 ((rd_T43 t130 x12_1).f1))).setCell ⟨gb136, 2, none⟩ (.int .i64 ((rd_T43 t130 x12_1).f2))).setCell ⟨gb136, 3, none⟩ (.int .i64 ((rd_T43 t130 x12_1).f3))).heap[gb136]? = some (.cells #[.int .i64 ((rd_T43 t130 x12_1).f0), .int .i64 ((rd_T43 t130 x12_1).f1), .int .i64 ((rd_T43 t130 x12_1).f2), .int .i64 ((rd_T43 t130 x12_1).f3)] 43 (0, 0))) := ⟨by (with_reducible repeat (first | refine blk_drewN ?_ _ | refine blk_drew ?_ | refine blk_alloc ?_ _)); refine blk_put (cs := #[.int .i64 ((rd_T43 t130 x12_1).f0), .int .i64 ((rd_T43 t130 x12_1).f1), .int .i64 ((rd_T43 t130 x12_1).f2), .int .i64 0]) ?_ 3 _ rfl; (with_reducible repeat (first | refine blk_drewN ?_ _ | refine blk_drew ?_ | refine blk_alloc ?_ _)); refine blk_put (cs := #[.int .i64 ((rd_T43 t130 x12_1).f0), .int .i64 ((rd_T43 t130 x12_1).f1), .int .i64 0, .int .i64 0]) ?_ 2 _ rfl; (with_reducible repeat (first | refine blk_drewN ?_ _ | refine blk_drew ?_ | refine blk_alloc ?_ _)); refine blk_put (cs := #[.int .i64 ((rd_T43 t130 x12_1).f0), .int .i64 0, .int .i64 0, .int .i64 0]) ?_ 1 _ rfl; (with_reducible repeat (first | refine blk_drewN ?_ _ | refine blk_drew ?_ | refine blk_alloc ?_ _)); refine blk_put (cs := #[.int .i64 0, .int .i64 0, .int .i64 0, .int .i64 0]) ?_ 0 _ rfl; (with_reducible repeat (first | refine blk_drewN ?_ _ | refine blk_drew ?_ | refine blk_alloc ?_ _)); exact BK136.out⟩
            have n3_ : Aside0 (Below w.heap.size w ((((w13.setCell ⟨gb136, 0, none⟩ (.int .i64 ((rd_T43 t130 x12_1).f0))).setCell ⟨gb136, 1, none⟩ (.int .i64 ((rd_T43 t130 x12_1).f1))).setCell ⟨gb136, 2, none⟩ (.int .i64 ((rd_T43 t130 x12_1).f2))).setCell ⟨gb136, 3, none⟩ (.int .i64 ((rd_T43 t130 x12_1).f3)))) := ⟨belPut⟩
            (try clear HO_9)
            (try clear HO_11)
            (try clear BK136)
            (try clear HB)
            generalize ((((w13.setCell ⟨gb136, 0, none⟩ (.int .i64 ((rd_T43 t130 x12_1).f0))).setCell ⟨gb136, 1, none⟩ (.int .i64 ((rd_T43 t130 x12_1).f1))).setCell ⟨gb136, 2, none⟩ (.int .i64 ((rd_T43 t130 x12_1).f2))).setCell ⟨gb136, 3, none⟩ (.int .i64 ((rd_T43 t130 x12_1).f3))) = w20 at n0_ n1_ n2_ n3_ ⊢
            have HO_9 := n0_
            have HO_11 := n1_
            have BK136 := n2_
            have HB := n3_
            clear n0_ n1_ n2_ n3_
            have n0_ := Aside0.mk (Kd.R_drew HO_9.out)
            have n1_ := Aside0.mk (Kd.R_drew HO_11.out)
            have n2_ := Aside0.mk (blk_drew BK136.out)
            have n3_ := Aside0.mk (below_drew1 HB.out)
            clear HO_9
            clear HO_11
            clear BK136
            clear HB
            have HO_9 := n0_
            have HO_11 := n1_
            have BK136 := n2_
            have HB := n3_
            clear n0_ n1_ n2_ n3_
            have p137 : 0 ≤ ((ji17) : Int) := ofDec
            have q137 : (ji17) < (x11_1.length : Int) := ofDec
            obtain ⟨ad137, e137, hx137_0, hx137_1, hx137_2, hx137_3⟩ := at_T43 (Kd.R_reads' HO_11.out).2.2 (ji17) p137 q137
            cases e137
            replace p137 := eq_true p137
            replace q137 := eq_true q137
            have p138 : 0 ≤ ((ji17) : Int) := ofDec
            have q138 : (ji17) < (x11_1.length : Int) := ofDec
            obtain ⟨ad138, e138, hx138_0, hx138_1, hx138_2, hx138_3⟩ := at_T43 (Kd.R_reads' HO_11.out).2.2 (ji17) p138 q138
            obtain rfl : ad137 = ad138 := (by injection e138)
            replace p138 := eq_true p138
            replace q138 := eq_true q138
            refine start_ (n := 16) (S := fun w' => w'.cell? (ad137.add (((ji17)).toNat * 4)) = some (.int .i64 ((rd_T43 x11_1 (ji17)).f0)) ∧ w'.cell? ⟨(ad137.add (((ji17)).toNat * 4)).block, (ad137.add (((ji17)).toNat * 4)).off + 1, none⟩ = some (.int .i64 ((rd_T43 x11_1 (ji17)).f1)) ∧ w'.cell? ⟨(ad137.add (((ji17)).toNat * 4)).block, (ad137.add (((ji17)).toNat * 4)).off + 2, none⟩ = some (.int .i64 ((rd_T43 x11_1 (ji17)).f2)) ∧ w'.cell? ⟨(ad137.add (((ji17)).toNat * 4)).block, (ad137.add (((ji17)).toNat * 4)).off + 3, none⟩ = some (.int .i64 ((rd_T43 x11_1 (ji17)).f3)) ∧ w'.cell? (ad137.add (((ji17)).toNat * 4)) = some (.int .i64 ((rd_T43 x11_1 (ji17)).f0)) ∧ w'.cell? ⟨(ad137.add (((ji17)).toNat * 4)).block, (ad137.add (((ji17)).toNat * 4)).off + 1, none⟩ = some (.int .i64 ((rd_T43 x11_1 (ji17)).f1)) ∧ w'.cell? ⟨(ad137.add (((ji17)).toNat * 4)).block, (ad137.add (((ji17)).toNat * 4)).off + 2, none⟩ = some (.int .i64 ((rd_T43 x11_1 (ji17)).f2)) ∧ w'.cell? ⟨(ad137.add (((ji17)).toNat * 4)).block, (ad137.add (((ji17)).toNat * 4)).off + 3, none⟩ = some (.int .i64 ((rd_T43 x11_1 (ji17)).f3))) (ds := []) #[false, false, false, false, false, false, false, false, false, false, false, false, false, false, false, false] (by kernel_rfl) rfl rfl ⟨hx137_0, hx137_1, hx137_2, hx137_3, hx138_0, hx138_1, hx138_2, hx138_3⟩ (fun hHeld => ?_); refine with_tabW slide_Slide.tab14 slide_Slide.bits14 (fun HT_ HW_ => ?_)
            generalize w20.drew = w21 at HO_9 HO_11 BK136 HB hx137_0 hx137_1 hx137_2 hx137_3 hx138_0 hx138_1 hx138_2 hx138_3 hHeld ⊢
            refine pure_ (i := 0) (N := some 56) (v := ?_) (a' := ?_) #[true, false, false, false, false, false, false, false, false, false, false, false, false, false, false, false] rfl rfl (any_of HT_.out (by kernel_rfl)) (fun _ _ _ h => h) (Or.inl ⟨by rfl, ?_⟩) ?_ ?_
            rotate_left
            ·intro w'
             go_simp
             with_reducible rfl
            rotate_left
            ·simp only [Act.put, List.setIfInBounds_toArray, List.set_cons_zero, List.set_cons_succ, i64_w, i32_w]
             rfl
            refine pure_ (i := 1) (N := some 57) (v := ?_) (a' := ?_) #[true, true, false, false, false, false, false, false, false, false, false, false, false, false, false, false] rfl rfl (any_of HT_.out (by kernel_rfl)) (fun _ _ _ h => h) (Or.inl ⟨by rfl, ?_⟩) ?_ ?_
            rotate_left
            ·intro w'
             go_simp
             with_reducible rfl
            rotate_left
            ·simp only [Act.put, List.setIfInBounds_toArray, List.set_cons_zero, List.set_cons_succ, i64_w, i32_w]
             rfl
            refine pure_ (i := 2) (N := some 58) (v := ?_) (a' := ?_) #[true, true, true, false, false, false, false, false, false, false, false, false, false, false, false, false] rfl rfl (any_of HT_.out (by kernel_rfl)) (fun _ _ _ h => h) (Or.inl ⟨by rfl, ?_⟩) ?_ ?_
            rotate_left
            ·intro w'
             go_simp
             with_reducible rfl
            rotate_left
            ·simp only [Act.put, List.setIfInBounds_toArray, List.set_cons_zero, List.set_cons_succ, i64_w, i32_w]
             rfl
            refine pure_ (i := 3) (N := some 59) (v := ?_) (a' := ?_) #[true, true, true, true, false, false, false, false, false, false, false, false, false, false, false, false] rfl rfl (any_of HT_.out (by kernel_rfl)) (fun _ _ _ h => h) (Or.inl ⟨by rfl, ?_⟩) ?_ ?_
            rotate_left
            ·intro w'
             go_simp
             with_reducible rfl
            rotate_left
            ·simp only [Act.put, List.setIfInBounds_toArray, List.set_cons_zero, List.set_cons_succ, i64_w, i32_w]
             rfl
            refine pure_ (i := 4) (N := some 60) (v := ?_) (a' := ?_) #[true, true, true, true, true, false, false, false, false, false, false, false, false, false, false, false] rfl rfl (any_of HT_.out (by kernel_rfl)) (fun _ _ _ h => h) (Or.inl ⟨by rfl, ?_⟩) ?_ ?_
            rotate_left
            ·intro w'
             go_simp
             with_reducible rfl
            rotate_left
            ·simp only [Act.put, List.setIfInBounds_toArray, List.set_cons_zero, List.set_cons_succ, i64_w, i32_w]
             rfl
            refine pure_ (i := 5) (N := some 61) (v := ?_) (a' := ?_) #[true, true, true, true, true, true, false, false, false, false, false, false, false, false, false, false] rfl rfl (any_of HT_.out (by kernel_rfl)) (fun _ _ _ h => h) (Or.inl ⟨by rfl, ?_⟩) ?_ ?_
            rotate_left
            ·intro w'
             go_simp
             with_reducible rfl
            rotate_left
            ·simp only [Act.put, List.setIfInBounds_toArray, List.set_cons_zero, List.set_cons_succ, i64_w, i32_w]
             rfl
            refine pure_ (i := 7) (N := some 63) (v := ?_) (a' := ?_) #[true, true, true, true, true, true, false, true, false, false, false, false, false, false, false, false] rfl rfl (any_of HT_.out (by kernel_rfl)) (fun _ _ _ h => h) (Or.inl ⟨by rfl, ?_⟩) ?_ ?_
            rotate_left
            ·intro w'
             go_simp
             with_reducible rfl
            rotate_left
            ·simp only [Act.put, List.setIfInBounds_toArray, List.set_cons_zero, List.set_cons_succ, i64_w, i32_w]
             rfl
            refine pure_ (i := 8) (N := some 64) (v := ?_) (a' := ?_) #[true, true, true, true, true, true, false, true, true, false, false, false, false, false, false, false] rfl rfl (any_of HT_.out (by kernel_rfl)) (fun _ _ _ h => h) (Or.inl ⟨by rfl, ?_⟩) ?_ ?_
            rotate_left
            ·intro w'
             go_simp
             with_reducible rfl
            rotate_left
            ·simp only [Act.put, List.setIfInBounds_toArray, List.set_cons_zero, List.set_cons_succ, i64_w, i32_w]
             rfl
            refine pure_ (i := 9) (N := some 65) (v := ?_) (a' := ?_) #[true, true, true, true, true, true, false, true, true, true, false, false, false, false, false, false] rfl rfl (any_of HT_.out (by kernel_rfl)) (fun _ _ _ h => h) (Or.inl ⟨by rfl, ?_⟩) ?_ ?_
            rotate_left
            ·intro w'
             go_simp
             with_reducible rfl
            rotate_left
            ·simp only [Act.put, List.setIfInBounds_toArray, List.set_cons_zero, List.set_cons_succ, i64_w, i32_w]
             rfl
            refine pure_ (i := 10) (N := some 66) (v := ?_) (a' := ?_) #[true, true, true, true, true, true, false, true, true, true, true, false, false, false, false, false] rfl rfl (any_of HT_.out (by kernel_rfl)) (fun _ _ _ h => h) (Or.inl ⟨by rfl, ?_⟩) ?_ ?_
            rotate_left
            ·intro w'
             go_simp
             with_reducible rfl
            rotate_left
            ·simp only [Act.put, List.setIfInBounds_toArray, List.set_cons_zero, List.set_cons_succ, i64_w, i32_w]
             rfl
            refine pure_ (i := 11) (N := some 67) (v := ?_) (a' := ?_) #[true, true, true, true, true, true, false, true, true, true, true, true, false, false, false, false] rfl rfl (any_of HT_.out (by kernel_rfl)) (fun _ _ _ h => h) (Or.inl ⟨by rfl, ?_⟩) ?_ ?_
            rotate_left
            ·intro w'
             go_simp
             with_reducible rfl
            rotate_left
            ·simp only [Act.put, List.setIfInBounds_toArray, List.set_cons_zero, List.set_cons_succ, i64_w, i32_w]
             rfl
            refine pure_ (i := 12) (N := some 68) (v := ?_) (a' := ?_) #[true, true, true, true, true, true, false, true, true, true, true, true, true, false, false, false] rfl rfl (any_of HT_.out (by kernel_rfl)) (fun _ _ _ h => h) (Or.inl ⟨by rfl, ?_⟩) ?_ ?_
            rotate_left
            ·intro w'
             go_simp
             with_reducible rfl
            rotate_left
            ·simp only [Act.put, List.setIfInBounds_toArray, List.set_cons_zero, List.set_cons_succ, i64_w, i32_w]
             rfl
            refine take_ (i := 6) (N := some 62) (v := ?_) (a' := ?_) #[true, true, true, true, true, true, true, true, true, true, true, true, true, false, false, false] rfl rfl (take_ofW HT_.out HW_.out (by kernel_rfl)) (fun _ _ _ h => h) (Or.inl ⟨by rfl, ?_⟩) hHeld ?_ ?_
            rotate_left
            ·rintro w' ⟨s0, s1, s2, s3, s4, s5, s6, s7⟩
             go_simp
             with_reducible rfl
            rotate_left
            ·simp only [Act.put, List.setIfInBounds_toArray, List.set_cons_zero, List.set_cons_succ, i64_w, i32_w]
             rfl
            refine pure_ (i := 14) (N := some 14) (v := ?_) (a' := ?_) #[true, true, true, true, true, true, true, true, true, true, true, true, true, false, true, false] rfl rfl (any_of HT_.out (by kernel_rfl)) (fun _ _ _ h => h) (Or.inl ⟨by rfl, ?_⟩) ?_ ?_
            rotate_left
            ·intro w'
             go_simp
             with_reducible rfl
            rotate_left
            ·simp only [Act.put, List.setIfInBounds_toArray, List.set_cons_zero, List.set_cons_succ, i64_w, i32_w]
             rfl
            refine take_ (i := 13) (N := some 69) (v := ?_) (a' := ?_) #[true, true, true, true, true, true, true, true, true, true, true, true, true, true, true, false] rfl rfl (take_ofW HT_.out HW_.out (by kernel_rfl)) (fun _ _ _ h => h) (Or.inl ⟨by rfl, ?_⟩) hHeld ?_ ?_
            rotate_left
            ·rintro w' ⟨s0, s1, s2, s3, s4, s5, s6, s7⟩
             go_simp
             with_reducible rfl
            rotate_left
            ·simp only [Act.put, List.setIfInBounds_toArray, List.set_cons_zero, List.set_cons_succ, i64_w, i32_w]
             rfl
            refine pure_ (i := 15) (N := some 15) (v := ?_) (a' := ?_) #[true, true, true, true, true, true, true, true, true, true, true, true, true, true, true, true] rfl rfl (any_of HT_.out (by kernel_rfl)) (fun _ _ _ h => h) (Or.inl ⟨by rfl, ?_⟩) ?_ ?_
            rotate_left
            ·intro w'
             go_simp
             with_reducible rfl
            rotate_left
            ·simp only [Act.put, List.setIfInBounds_toArray, List.set_cons_zero, List.set_cons_succ, i64_w, i32_w]
             rfl
            refine done_ (done_of HT_.out (by kernel_rfl)) ?_
            try go_wp2
            go_meet
            case rel => exact ⟨_, ((rd_T43 x11_1 (ji17)).f0), ((rd_T43 x11_1 (ji17)).f2), (by first | rfl | (simp; done) | (simp only [← hji17] <;> (first | rfl | simp)) | (simp [*]; done) | (simp [*] <;> rfl)), (by first | rfl | (simp; done) | (simp only [← hji17] <;> (first | rfl | simp)) | (simp [*]; done) | (simp [*] <;> rfl)), H', ⟨by have := HK1.out; first | omega | exact Nat.le_refl _⟩, ⟨by (with_reducible repeat (first | apply Kd.R_alloc | apply Kd.R_drewN | apply Kd.R_drew)); (first | exact HO_9.out | exact Kd.R_mono HO_9.out (fun k_ h_ h2_ => h_ (h2_.trans ((fun (A_ : Option Addr) (n_ m_ c_ : Nat) => (show (Value.slice A_ n_ c_).ownBlock = (Value.slice A_ m_ c_).ownBlock by cases A_ <;> rfl)) _ _ _ _))))⟩, ⟨by (with_reducible repeat (first | apply Kd.R_alloc | apply Kd.R_drewN | apply Kd.R_drew)); (first | exact HO_11.out | exact Kd.R_mono HO_11.out (fun k_ h_ h2_ => h_ (h2_.trans ((fun (A_ : Option Addr) (n_ m_ c_ : Nat) => (show (Value.slice A_ n_ c_).ownBlock = (Value.slice A_ m_ c_).ownBlock by cases A_ <;> rfl)) _ _ _ _))))⟩, ⟨by (with_reducible repeat (first | refine blk_drewN ?_ _ | refine blk_drew ?_ | refine blk_alloc ?_ _)); exact BK136.out⟩, ⟨belPut⟩⟩
           ·rw [if_neg c19] at H
            exact absurd H (by simp)
          ·rw [if_neg c18] at H
           exact absurd H (by simp)
         ·rw [if_neg c16] at H
          have c16b0 : decide (0 < (x11_1.length : Int)) = false := decide_eq_false c16
          have c16b1 : decide (0 < x11_1.length) = false := decide_eq_false (by omega)
          have c16b2 : ¬ 0 < x11_1.length := of_decide_eq_false c16b1
          clear c16
          (first | rw [c16b0] | (simp only [i64_w, i32_w]; rw [c16b0]) | skip)
          have H' := Aside0.mk H
          clear H
          go_wp2
          go_meet
          case rel => exact ⟨_, ((l1.length : Int)), ((l2.length : Int)), eqNow, eqNow, H', ⟨by have := HK1.out; first | omega | exact Nat.le_refl _⟩, ⟨by (with_reducible repeat (first | apply Kd.R_alloc | apply Kd.R_drewN | apply Kd.R_drew)); exact Kd.R_mono (Kd.R_far (p := ⟨gb136, 3, none⟩) (Kd.R_far (p := ⟨gb136, 2, none⟩) (Kd.R_far (p := ⟨gb136, 1, none⟩) (Kd.R_far (p := ⟨gb136, 0, none⟩) (Kd.R_mono HO_9.out (fun k_ hk => (⟨hk, hk.2⟩ : _ ∧ k_ ≠ gb136))) (fun _ hk => hk.2) (.int .i64 ((rd_T43 t130 x12_1).f0))) (fun _ hk => hk.2) (.int .i64 ((rd_T43 t130 x12_1).f1))) (fun _ hk => hk.2) (.int .i64 ((rd_T43 t130 x12_1).f2))) (fun _ hk => hk.2) (.int .i64 ((rd_T43 t130 x12_1).f3))) (fun _ hk => ⟨hk.1.1, hk.1.2⟩)⟩, ⟨by (with_reducible repeat (first | apply Kd.R_alloc | apply Kd.R_drewN | apply Kd.R_drew)); exact Kd.R_mono (Kd.R_far (p := ⟨gb136, 3, none⟩) (Kd.R_far (p := ⟨gb136, 2, none⟩) (Kd.R_far (p := ⟨gb136, 1, none⟩) (Kd.R_far (p := ⟨gb136, 0, none⟩) (Kd.R_mono HO_11.out (fun k_ hk => (⟨hk, hk.2⟩ : _ ∧ k_ ≠ gb136))) (fun _ hk => hk.2) (.int .i64 ((rd_T43 t130 x12_1).f0))) (fun _ hk => hk.2) (.int .i64 ((rd_T43 t130 x12_1).f1))) (fun _ hk => hk.2) (.int .i64 ((rd_T43 t130 x12_1).f2))) (fun _ hk => hk.2) (.int .i64 ((rd_T43 t130 x12_1).f3))) (fun _ hk => ⟨hk.1.1, hk.1.2⟩)⟩, ⟨by (with_reducible repeat (first | refine blk_drewN ?_ _ | refine blk_drew ?_ | refine blk_alloc ?_ _)); refine blk_put (cs := #[.int .i64 ((rd_T43 t130 x12_1).f0), .int .i64 ((rd_T43 t130 x12_1).f1), .int .i64 ((rd_T43 t130 x12_1).f2), .int .i64 0]) ?_ 3 _ rfl; (with_reducible repeat (first | refine blk_drewN ?_ _ | refine blk_drew ?_ | refine blk_alloc ?_ _)); refine blk_put (cs := #[.int .i64 ((rd_T43 t130 x12_1).f0), .int .i64 ((rd_T43 t130 x12_1).f1), .int .i64 0, .int .i64 0]) ?_ 2 _ rfl; (with_reducible repeat (first | refine blk_drewN ?_ _ | refine blk_drew ?_ | refine blk_alloc ?_ _)); refine blk_put (cs := #[.int .i64 ((rd_T43 t130 x12_1).f0), .int .i64 0, .int .i64 0, .int .i64 0]) ?_ 1 _ rfl; (with_reducible repeat (first | refine blk_drewN ?_ _ | refine blk_drew ?_ | refine blk_alloc ?_ _)); refine blk_put (cs := #[.int .i64 0, .int .i64 0, .int .i64 0, .int .i64 0]) ?_ 0 _ rfl; (with_reducible repeat (first | refine blk_drewN ?_ _ | refine blk_drew ?_ | refine blk_alloc ?_ _)); exact BK136.out⟩, ⟨belPut⟩⟩
        case rest =>
         clear HC12
         try clear c1
         try clear p1
         try clear q1
         try clear hx1
         try clear c2
         try clear p2
         try clear p6
         try clear c7
         try clear c9
         try clear c9b0
         try clear c10
         try clear c10b0
         try clear c11
         try clear c11b0
         try clear q12
         try clear p13
         try clear q13
         try clear hx13
         try clear c16
         try clear c16b0
         try clear c16b1
         try clear c17
         try clear c18
         try clear c18b0
         try clear c19
         try clear c19b0
         try clear hcz14_0
         try clear hcz14_1
         try clear hcz14_2
         try clear hcz14_3
         try clear hfz14_0
         try clear hfz14_1
         try clear hfz14_2
         try clear hfz14_3
         try clear hx135_0
         try clear hx135_1
         try clear hx135_2
         try clear hx135_3
         try clear hx137_0
         try clear hx137_1
         try clear hx137_2
         try clear hx137_3
         try clear hx138_0
         try clear hx138_1
         try clear hx138_2
         try clear hx138_3
         try clear p135
         try clear p137
         try clear p138
         try clear p2
         try clear p6
         try clear q1
         try clear q129
         try clear q134
         try clear q135
         try clear q137
         try clear q138
         obtain ⟨kq, x14_11, x15_11, rfl, rfl, HA, HJ11, HO_9, HO_11, BK136, HB⟩ := hcut
         cases kq with
         | zero => exact absurd HA.out (by simp [slide_Slide.j1])
         | succ kj11 =>
          have H := HA.out
          clear HA
          simp only [slide_Slide.j1] at H
          have H' := Aside0.mk H
          clear H
          go_wp2
          go_loopg [] kj11 (fun kq w' => ∃ (x137000_3 : Int) (x137002_3 : Int), Aside0 (slide_Slide.l1 kq l1 l2 t130 x11_1 x12_1 x14_11 x15_11 x137000_3 ((rd_T43 t130 x12_1).f1) x137002_3 ((rd_T43 t130 x12_1).f3) = some (r1, r2)) ∧ Aside0 (kq ≤ kj11) ∧ Aside0 (Kd.R k43 43 w' w.heap.size (fun k_ => some k_ ≠ ((.slice Ao15 x11_1.length co15) : Value).ownBlock ∧ k_ ≠ gb136) (.slice (some ad135) t130.length co8) t130) ∧ Aside0 (Kd.R k43 43 w' w.heap.size (fun k_ => some k_ ≠ ((.slice (some ad135) t130.length co8) : Value).ownBlock ∧ k_ ≠ gb136) (.slice Ao15 x11_1.length co15) x11_1) ∧ Aside0 (w'.heap[gb136]? = some (.cells #[.int .i64 x137000_3, .int .i64 ((rd_T43 t130 x12_1).f1), .int .i64 x137002_3, .int .i64 ((rd_T43 t130 x12_1).f3)] 43 (0, 0))) ∧ Aside0 (Below w.heap.size w w'))
          case atStart => exact ⟨(((rd_T43 t130 x12_1).f0)), (((rd_T43 t130 x12_1).f2)), H', ⟨Nat.le_refl _⟩, ⟨by (with_reducible repeat (first | apply Kd.R_alloc | apply Kd.R_drewN | apply Kd.R_drew)); (first | exact HO_9.out | exact Kd.R_mono HO_9.out (fun k_ h_ h2_ => h_ (h2_.trans ((fun (A_ : Option Addr) (n_ m_ c_ : Nat) => (show (Value.slice A_ n_ c_).ownBlock = (Value.slice A_ m_ c_).ownBlock by cases A_ <;> rfl)) _ _ _ _))))⟩, ⟨by (with_reducible repeat (first | apply Kd.R_alloc | apply Kd.R_drewN | apply Kd.R_drew)); (first | exact HO_11.out | exact Kd.R_mono HO_11.out (fun k_ h_ h2_ => h_ (h2_.trans ((fun (A_ : Option Addr) (n_ m_ c_ : Nat) => (show (Value.slice A_ n_ c_).ownBlock = (Value.slice A_ m_ c_).ownBlock by cases A_ <;> rfl)) _ _ _ _))))⟩, ⟨by (with_reducible repeat (first | refine blk_drewN ?_ _ | refine blk_drew ?_ | refine blk_alloc ?_ _)); exact BK136.out⟩, ⟨belPut⟩⟩
          case round =>
           clear H'
           try clear c1
           try clear p1
           try clear q1
           try clear hx1
           try clear c2
           try clear p2
           try clear p6
           try clear c7
           try clear c9
           try clear c9b0
           try clear c10
           try clear c10b0
           try clear c11
           try clear c11b0
           try clear q12
           try clear p13
           try clear q13
           try clear hx13
           try clear c16
           try clear c16b0
           try clear c16b1
           try clear c17
           try clear c18
           try clear c18b0
           try clear c19
           try clear c19b0
           try clear hcz14_0
           try clear hcz14_1
           try clear hcz14_2
           try clear hcz14_3
           try clear hfz14_0
           try clear hfz14_1
           try clear hfz14_2
           try clear hfz14_3
           try clear hx135_0
           try clear hx135_1
           try clear hx135_2
           try clear hx135_3
           try clear hx137_0
           try clear hx137_1
           try clear hx137_2
           try clear hx137_3
           try clear hx138_0
           try clear hx138_1
           try clear hx138_2
           try clear hx138_3
           try clear p1
           try clear p13
           try clear p135
           try clear p137
           try clear p138
           try clear p2
           try clear p6
           try clear q1
           try clear q12
           try clear q129
           try clear q13
           try clear q134
           try clear q135
           try clear q137
           try clear q138
           obtain ⟨x137000_3, x137002_3, HA, HK3, HO_9, HO_11, BK136, HB⟩ := hrel
           cases gk with
           | zero => exact absurd HA.out (by simp [slide_Slide.l1])
           | succ k3 =>
            have H := HA.out
            clear HA
            simp only [slide_Slide.l1] at H
            replace H := Option.bind_eq_some_iff.mp H
            obtain ⟨t139, A220, H⟩ := H
            replace H : (if t139 = true then (slide_Slide.l1 k3 l1 l2 t130 x11_1 x12_1 x14_11 x15_11 (wrap64 (x137000_3 + 1)) ((rd_T43 t130 x12_1).f1) (wrap64 (x137002_3 + 1)) ((rd_T43 t130 x12_1).f3)) else (if (x11_1.length : Int) > 0 then (if (wrap64 (x137000_3 + ((rd_T43 t130 x12_1).f1))) = x14_11 then (if 0 ≤ (wrap64 ((x11_1.length : Int) - 1)) then (if (wrap64 ((x11_1.length : Int) - 1)) < (x11_1.length : Int) then (slide_Slide.l0 k3 l1 l2 t130 (x11_1.set ((wrap64 ((x11_1.length : Int) - 1)) : Int).toNat (⟨x137000_3, wrap64 (((rd_T43 t130 x12_1).f1) + ((rd_T43 x11_1 (wrap64 ((x11_1.length : Int) - 1))).f1)), x137002_3, wrap64 (((rd_T43 t130 x12_1).f3) + ((rd_T43 x11_1 (wrap64 ((x11_1.length : Int) - 1))).f3))⟩ : S43)) (wrap64 (x12_1 - 1))) else (none)) else (none)) else (if x11_1.length < 4398046511104 then (slide_Slide.l0 k3 l1 l2 t130 (x11_1 ++ [(⟨x137000_3, ((rd_T43 t130 x12_1).f1), x137002_3, ((rd_T43 t130 x12_1).f3)⟩ : S43)]) (wrap64 (x12_1 - 1))) else (none))) else (if x11_1.length < 4398046511104 then (slide_Slide.l0 k3 l1 l2 t130 (x11_1 ++ [(⟨x137000_3, ((rd_T43 t130 x12_1).f1), x137002_3, ((rd_T43 t130 x12_1).f3)⟩ : S43)]) (wrap64 (x12_1 - 1))) else (none)))) = some (r1, r2) := H
            have A22 := Aside0.mk A220
            clear A220
            by_cases c23 : t139 = true
            ·subst c23
             have H1 : (slide_Slide.l1 k3 l1 l2 t130 x11_1 x12_1 x14_11 x15_11 (wrap64 (x137000_3 + 1)) ((rd_T43 t130 x12_1).f1) (wrap64 (x137002_3 + 1)) ((rd_T43 t130 x12_1).f3)) = some (r1, r2) := by rw [if_pos rfl] at H; exact H
             clear H
             have H := H1
             clear H1
             have H' := Aside0.mk H
             clear H
             have hcz24_0 : wr.cell? ⟨gb136, 0, none⟩ = some (.int .i64 x137000_3) := (blk_cell BK136.out 0).trans rfl
             have hcz24_1 : wr.cell? ⟨gb136, 1, none⟩ = some (.int .i64 ((rd_T43 t130 x12_1).f1)) := (blk_cell BK136.out 1).trans rfl
             have hcz24_2 : wr.cell? ⟨gb136, 2, none⟩ = some (.int .i64 x137002_3) := (blk_cell BK136.out 2).trans rfl
             have hcz24_3 : wr.cell? ⟨gb136, 3, none⟩ = some (.int .i64 ((rd_T43 t130 x12_1).f3)) := (blk_cell BK136.out 3).trans rfl
             have hfz24_0 := blk_frozen BK136.out 0
             have hfz24_1 := blk_frozen BK136.out 1
             have hfz24_2 := blk_frozen BK136.out 2
             have hfz24_3 := blk_frozen BK136.out 3
             go_wp2_with (first | ((with_reducible refine gate_callee (f := 19) rfl ?_); refine goesL_ (some 75) rfl rfl Tryd.func19 (by kernel_rfl) rfl #[.agg #[.int .i64 x137000_3, .int .i64 ((rd_T43 t130 x12_1).f1), .int .i64 x137002_3, .int .i64 ((rd_T43 t130 x12_1).f3)], .slice A1 l1.length c1, .slice A2 l2.length c2, .int .i64 x14_11, .int .i64 x15_11] rfl argsOk ?_; (with_reducible refine (slide_slides.calls k3 x137000_3 ((rd_T43 t130 x12_1).f1) x137002_3 ((rd_T43 t130 x12_1).f3) _ _ l1 _ _ l2 x14_11 x15_11 true _ ?side1 ?side2 ?side3 ?side4 A22.out).mono ?_); (case side1 => repeat (first | exact (Kd.C_below HR1.out HB.out) | (with_reducible refine Kd.C_alloc ?_ _) | (with_reducible refine Kd.C_drewN ?_ _) | (with_reducible refine Kd.C_drew ?_))); (case side2 => exact HC1.out); (case side3 => repeat (first | exact (Kd.C_below HR2.out HB.out) | (with_reducible refine Kd.C_alloc ?_ _) | (with_reducible refine Kd.C_drewN ?_ _) | (with_reducible refine Kd.C_drew ?_))); (case side4 => exact HC2.out); rintro e w25 ⟨rfl, hb⟩; refine ⟨_, rfl, ?_⟩; have n0_ := Aside0.mk (Kd.R_below (kdUp HO_9.out) hb); have n1_ := Aside0.mk (Kd.R_below (kdUp HO_11.out) hb); have n2_ := Aside0.mk (blk_below (g := gb136) (o := .cells #[.int .i64 x137000_3, .int .i64 ((rd_T43 t130 x12_1).f1), .int .i64 x137002_3, .int .i64 ((rd_T43 t130 x12_1).f3)] 43 (0, 0)) (bkUp BK136.out) hb); have n3_ := Aside0.mk (below_step (belPut) hb); clear HO_9; clear HO_11; clear BK136; clear HB; have HO_9 := n0_; have HO_11 := n1_; have BK136 := n2_; have HB := n3_; clear n0_ n1_ n2_ n3_; (try clear hb); (try clear hb2); (try clear hk); (try clear hi); have hcz26_0 : w25.cell? ⟨gb136, 0, none⟩ = some (.int .i64 x137000_3) := (blk_cell BK136.out 0).trans rfl; have hcz26_1 : w25.cell? ⟨gb136, 1, none⟩ = some (.int .i64 ((rd_T43 t130 x12_1).f1)) := (blk_cell BK136.out 1).trans rfl; have hcz26_2 : w25.cell? ⟨gb136, 2, none⟩ = some (.int .i64 x137002_3) := (blk_cell BK136.out 2).trans rfl; have hcz26_3 : w25.cell? ⟨gb136, 3, none⟩ = some (.int .i64 ((rd_T43 t130 x12_1).f3)) := (blk_cell BK136.out 3).trans rfl; have hfz26_0 := blk_frozen BK136.out 0; have hfz26_1 := blk_frozen BK136.out 1; have hfz26_2 := blk_frozen BK136.out 2; have hfz26_3 := blk_frozen BK136.out 3))
             go_roundg k3
             case measure => have := HK1.out; have := HJ11.out; have := HK3.out; omega
             case rel => exact ⟨(wrap64 (x137000_3 + 1)), (wrap64 (x137002_3 + 1)), H', ⟨by have := HK1.out; have := HJ11.out; have := HK3.out; omega⟩, ⟨by (with_reducible repeat (first | apply Kd.R_alloc | apply Kd.R_drewN | apply Kd.R_drew)); exact Kd.R_mono (Kd.R_far (p := ⟨gb136, 2, none⟩) (Kd.R_far (p := ⟨gb136, 0, none⟩) (Kd.R_mono HO_9.out (fun k_ hk => (⟨hk, hk.2⟩ : _ ∧ k_ ≠ gb136))) (fun _ hk => hk.2) (.int .i64 (wrap64 (x137000_3 + 1)))) (fun _ hk => hk.2) (.int .i64 (wrap64 (x137002_3 + 1)))) (fun _ hk => ⟨hk.1.1, hk.1.2⟩)⟩, ⟨by (with_reducible repeat (first | apply Kd.R_alloc | apply Kd.R_drewN | apply Kd.R_drew)); exact Kd.R_mono (Kd.R_far (p := ⟨gb136, 2, none⟩) (Kd.R_far (p := ⟨gb136, 0, none⟩) (Kd.R_mono HO_11.out (fun k_ hk => (⟨hk, hk.2⟩ : _ ∧ k_ ≠ gb136))) (fun _ hk => hk.2) (.int .i64 (wrap64 (x137000_3 + 1)))) (fun _ hk => hk.2) (.int .i64 (wrap64 (x137002_3 + 1)))) (fun _ hk => ⟨hk.1.1, hk.1.2⟩)⟩, ⟨by (with_reducible repeat (first | refine blk_drewN ?_ _ | refine blk_drew ?_ | refine blk_alloc ?_ _)); refine blk_put (cs := #[.int .i64 (wrap64 (x137000_3 + 1)), .int .i64 ((rd_T43 t130 x12_1).f1), .int .i64 x137002_3, .int .i64 ((rd_T43 t130 x12_1).f3)]) ?_ 2 _ rfl; (with_reducible repeat (first | refine blk_drewN ?_ _ | refine blk_drew ?_ | refine blk_alloc ?_ _)); refine blk_put (cs := #[.int .i64 x137000_3, .int .i64 ((rd_T43 t130 x12_1).f1), .int .i64 x137002_3, .int .i64 ((rd_T43 t130 x12_1).f3)]) ?_ 0 _ rfl; (with_reducible repeat (first | refine blk_drewN ?_ _ | refine blk_drew ?_ | refine blk_alloc ?_ _)); exact BK136.out⟩, ⟨belPut⟩⟩
            ·replace c23 := Bool.eq_false_iff.mpr c23
             subst c23
             have H1 : (if (x11_1.length : Int) > 0 then (if (wrap64 (x137000_3 + ((rd_T43 t130 x12_1).f1))) = x14_11 then (if 0 ≤ (wrap64 ((x11_1.length : Int) - 1)) then (if (wrap64 ((x11_1.length : Int) - 1)) < (x11_1.length : Int) then (slide_Slide.l0 k3 l1 l2 t130 (x11_1.set ((wrap64 ((x11_1.length : Int) - 1)) : Int).toNat (⟨x137000_3, wrap64 (((rd_T43 t130 x12_1).f1) + ((rd_T43 x11_1 (wrap64 ((x11_1.length : Int) - 1))).f1)), x137002_3, wrap64 (((rd_T43 t130 x12_1).f3) + ((rd_T43 x11_1 (wrap64 ((x11_1.length : Int) - 1))).f3))⟩ : S43)) (wrap64 (x12_1 - 1))) else (none)) else (none)) else (if x11_1.length < 4398046511104 then (slide_Slide.l0 k3 l1 l2 t130 (x11_1 ++ [(⟨x137000_3, ((rd_T43 t130 x12_1).f1), x137002_3, ((rd_T43 t130 x12_1).f3)⟩ : S43)]) (wrap64 (x12_1 - 1))) else (none))) else (if x11_1.length < 4398046511104 then (slide_Slide.l0 k3 l1 l2 t130 (x11_1 ++ [(⟨x137000_3, ((rd_T43 t130 x12_1).f1), x137002_3, ((rd_T43 t130 x12_1).f3)⟩ : S43)]) (wrap64 (x12_1 - 1))) else (none))) = some (r1, r2) := by rw [if_neg (show ¬ (false = true) by decide)] at H; exact H
             clear H
             have H := H1
             clear H1
             by_cases c27 : (x11_1.length : Int) > 0
             ·rw [if_pos c27] at H
              have c27b0 : decide (0 < (x11_1.length : Int)) = true := decide_eq_true c27
              have c27b1 : decide (0 < x11_1.length) = true := decide_eq_true (by omega)
              have c27b2 : 0 < x11_1.length := of_decide_eq_true c27b1
              clear c27
              by_cases c28 : (wrap64 (x137000_3 + ((rd_T43 t130 x12_1).f1))) = x14_11
              ·rw [if_pos c28] at H
               have c28b0 : ((wrap64 (x137000_3 + ((rd_T43 t130 x12_1).f1))) == x14_11) = true := beq_iff_eq.mpr c28
               have c28b1 : ((wrap64 (x137000_3 + ((rd_T43 t130 x12_1).f1))) != x14_11) = false := bne_eq_false_iff_eq.mpr c28
               clear c28
               obtain ⟨ji29, hji29⟩ : ∃ j_ : Int, (wrap64 ((x11_1.length : Int) - 1)) = j_ := ⟨_, rfl⟩
               replace H : (if 0 ≤ (ji29) then (if (ji29) < (x11_1.length : Int) then (slide_Slide.l0 k3 l1 l2 t130 (x11_1.set ((ji29) : Int).toNat (⟨x137000_3, wrap64 (((rd_T43 t130 x12_1).f1) + ((rd_T43 x11_1 (ji29)).f1)), x137002_3, wrap64 (((rd_T43 t130 x12_1).f3) + ((rd_T43 x11_1 (ji29)).f3))⟩ : S43)) (wrap64 (x12_1 - 1))) else (none)) else (none)) = some (r1, r2) := by first | (rw [hji29] at H; exact H) | (simp only [hji29] at H ⊢; exact H)
               (try rw [hji29] at A22)
               have hji29w : (IntKind.i64.wrap ((x11_1.length : Int) - 1)) = ji29 := (i64_w _).trans hji29
               by_cases c30 : 0 ≤ (ji29)
               ·rw [if_pos c30] at H
                have c30b0 : decide (0 ≤ (ji29)) = true := decide_eq_true c30
                clear c30
                by_cases c31 : (ji29) < (x11_1.length : Int)
                ·rw [if_pos c31] at H
                 have c31b0 : decide ((ji29) < (x11_1.length : Int)) = true := decide_eq_true c31
                 clear c31
                 obtain ⟨y141, hy141⟩ : ∃ y_ : List (S43), y_ = (x11_1.set ((ji29) : Int).toNat (⟨x137000_3, wrap64 (((rd_T43 t130 x12_1).f1) + ((rd_T43 x11_1 (ji29)).f1)), x137002_3, wrap64 (((rd_T43 t130 x12_1).f3) + ((rd_T43 x11_1 (ji29)).f3))⟩ : S43)) := ⟨_, rfl⟩
                 replace H : (slide_Slide.l0 k3 l1 l2 t130 y141 (wrap64 (x12_1 - 1))) = some (r1, r2) := by first | (rw [hy141]; with_reducible exact H) | (have H2_ := (Option.bind_some _ _).symm.trans H; rw [hy141]; with_reducible exact H2_) | (have H2_ := (Option.bind_some _ _).symm.trans H; with_reducible exact H2_) | with_reducible exact H | (rw [hy141]; exact H) | exact H
                 have Ny141 := Aside0.mk hy141
                 clear hy141
                 have H' := Aside0.mk H
                 clear H
                 have hcz33_0 : wr.cell? ⟨gb136, 0, none⟩ = some (.int .i64 x137000_3) := (blk_cell BK136.out 0).trans rfl
                 have hcz33_1 : wr.cell? ⟨gb136, 1, none⟩ = some (.int .i64 ((rd_T43 t130 x12_1).f1)) := (blk_cell BK136.out 1).trans rfl
                 have hcz33_2 : wr.cell? ⟨gb136, 2, none⟩ = some (.int .i64 x137002_3) := (blk_cell BK136.out 2).trans rfl
                 have hcz33_3 : wr.cell? ⟨gb136, 3, none⟩ = some (.int .i64 ((rd_T43 t130 x12_1).f3)) := (blk_cell BK136.out 3).trans rfl
                 have hfz33_0 := blk_frozen BK136.out 0
                 have hfz33_1 := blk_frozen BK136.out 1
                 have hfz33_2 := blk_frozen BK136.out 2
                 have hfz33_3 := blk_frozen BK136.out 3
                 try go_wp2_with (first | ((with_reducible refine gate_callee (f := 19) rfl ?_); refine goesL_ (some 75) rfl rfl Tryd.func19 (by kernel_rfl) rfl #[.agg #[.int .i64 x137000_3, .int .i64 ((rd_T43 t130 x12_1).f1), .int .i64 x137002_3, .int .i64 ((rd_T43 t130 x12_1).f3)], .slice A1 l1.length c1, .slice A2 l2.length c2, .int .i64 x14_11, .int .i64 x15_11] rfl argsOk ?_; (with_reducible refine (slide_slides.calls k3 x137000_3 ((rd_T43 t130 x12_1).f1) x137002_3 ((rd_T43 t130 x12_1).f3) _ _ l1 _ _ l2 x14_11 x15_11 false _ ?side1 ?side2 ?side3 ?side4 A22.out).mono ?_); (case side1 => repeat (first | exact (Kd.C_below HR1.out HB.out) | (with_reducible refine Kd.C_alloc ?_ _) | (with_reducible refine Kd.C_drewN ?_ _) | (with_reducible refine Kd.C_drew ?_))); (case side2 => exact HC1.out); (case side3 => repeat (first | exact (Kd.C_below HR2.out HB.out) | (with_reducible refine Kd.C_alloc ?_ _) | (with_reducible refine Kd.C_drewN ?_ _) | (with_reducible refine Kd.C_drew ?_))); (case side4 => exact HC2.out); rintro e w34 ⟨rfl, hb⟩; refine ⟨_, rfl, ?_⟩; have n0_ := Aside0.mk (Kd.R_below (kdUp HO_9.out) hb); have n1_ := Aside0.mk (Kd.R_below (kdUp HO_11.out) hb); have n2_ := Aside0.mk (blk_below (g := gb136) (o := .cells #[.int .i64 x137000_3, .int .i64 ((rd_T43 t130 x12_1).f1), .int .i64 x137002_3, .int .i64 ((rd_T43 t130 x12_1).f3)] 43 (0, 0)) (bkUp BK136.out) hb); have n3_ := Aside0.mk (below_step (belPut) hb); clear HO_9; clear HO_11; clear BK136; clear HB; have HO_9 := n0_; have HO_11 := n1_; have BK136 := n2_; have HB := n3_; clear n0_ n1_ n2_ n3_; (try clear hb); (try clear hb2); (try clear hk); (try clear hi); have hcz35_0 : w34.cell? ⟨gb136, 0, none⟩ = some (.int .i64 x137000_3) := (blk_cell BK136.out 0).trans rfl; have hcz35_1 : w34.cell? ⟨gb136, 1, none⟩ = some (.int .i64 ((rd_T43 t130 x12_1).f1)) := (blk_cell BK136.out 1).trans rfl; have hcz35_2 : w34.cell? ⟨gb136, 2, none⟩ = some (.int .i64 x137002_3) := (blk_cell BK136.out 2).trans rfl; have hcz35_3 : w34.cell? ⟨gb136, 3, none⟩ = some (.int .i64 ((rd_T43 t130 x12_1).f3)) := (blk_cell BK136.out 3).trans rfl; have hfz35_0 := blk_frozen BK136.out 0; have hfz35_1 := blk_frozen BK136.out 1; have hfz35_2 := blk_frozen BK136.out 2; have hfz35_3 := blk_frozen BK136.out 3; have p140 : 0 ≤ ((ji29) : Int) := ofDec; have q140 : (ji29) < (x11_1.length : Int) := ofDec; obtain ⟨ad140, e140, hx140_0, hx140_1, hx140_2, hx140_3⟩ := at_T43 (Kd.R_reads' HO_11.out).2.2 (ji29) p140 q140; cases e140; replace p140 := eq_true p140; replace q140 := eq_true q140))
                 have n0_ := Aside0.mk (Kd.R_drew HO_9.out)
                 have n1_ := Aside0.mk (Kd.R_drew HO_11.out)
                 have n2_ := Aside0.mk (blk_drew BK136.out)
                 have n3_ := Aside0.mk (below_drew1 HB.out)
                 clear HO_9
                 clear HO_11
                 clear BK136
                 clear HB
                 have HO_9 := n0_
                 have HO_11 := n1_
                 have BK136 := n2_
                 have HB := n3_
                 clear n0_ n1_ n2_ n3_
                 have p32 : 0 ≤ ((ji29) : Int) := ofDec
                 have q32 : ((ji29) : Int) < ((x11_1.length : Int) : Int) := ofDec
                 obtain ⟨go32, co32, eo32, gb32, gl32, cl32, HG32⟩ := Kd.R_form HO_11.out (by omega)
                 (first | cases eo32 | (injection eo32 with ea_ en_ ec_; (first | subst ea_ | (injection ea_ with ea_; subst ea_)); subst ec_; clear en_))
                 have GB32 := Aside0.mk gb32
                 have GG32 := Aside0.mk HG32
                 clear gb32 gl32 HG32
                 (first | simp only [add_plain] at hx140_0 | skip)
                 (first | simp only [add_plain] at hx140_1 | skip)
                 (first | simp only [add_plain] at hx140_2 | skip)
                 (first | simp only [add_plain] at hx140_3 | skip)
                 obtain ⟨ce32, hcl32, hM32, hcc32, hfr32⟩ := Kd.R_elem HO_11.out z43 ((ji29) : Int) p32 q32
                 obtain rfl := k43_openM hM32
                 have hx32_0 : World.cell? _ ⟨go32, ((ji29) : Int).toNat * 4, none⟩ = some (.int .i64 ((rd_T43 x11_1 (ji29)).f0)) := hcc32 0 _ rfl
                 have hx32_1 : World.cell? _ ⟨go32, ((ji29) : Int).toNat * 4 + 1, none⟩ = some (.int .i64 ((rd_T43 x11_1 (ji29)).f1)) := hcc32 1 _ rfl
                 have hx32_2 : World.cell? _ ⟨go32, ((ji29) : Int).toNat * 4 + 2, none⟩ = some (.int .i64 ((rd_T43 x11_1 (ji29)).f2)) := hcc32 2 _ rfl
                 have hx32_3 : World.cell? _ ⟨go32, ((ji29) : Int).toNat * 4 + 3, none⟩ = some (.int .i64 ((rd_T43 x11_1 (ji29)).f3)) := hcc32 3 _ rfl
                 have hf32_0 : World.frozen? _ ⟨go32, ((ji29) : Int).toNat * 4, none⟩ = false := hfr32 0
                 have hf32_1 : World.frozen? _ ⟨go32, ((ji29) : Int).toNat * 4 + 1, none⟩ = false := hfr32 1
                 have hf32_2 : World.frozen? _ ⟨go32, ((ji29) : Int).toNat * 4 + 2, none⟩ = false := hfr32 2
                 have hf32_3 : World.frozen? _ ⟨go32, ((ji29) : Int).toNat * 4 + 3, none⟩ = false := hfr32 3
                 clear hcl32 hcc32 hfr32 hM32
                 replace p32 := eq_true p32
                 replace q32 := eq_true q32
                 obtain ⟨ce37, hcl37, hM37, hcc37, hfr37⟩ := Kd.R_elem HO_11.out z43 ((ji29) : Int) (ofDec) (by have h_ : ((ji29) : Int) < ((x11_1.length : Int) : Int) := ofDec; first | exact h_ | (have e_ := (Kd.R_reads' HO_11.out).1; omega) | simpa using h_)
                 obtain rfl := k43_openM hM37
                 have HP37 := (Kd.R_seg HO_11.out ((ji29) : Int) (ofDec) (by have h_ : ((ji29) : Int) < ((x11_1.length : Int) : Int) := ofDec; first | exact h_ | (have e_ := (Kd.R_reads' HO_11.out).1; omega) | simpa using h_) (seg := [.int .i64 x137000_3, .int .i64 (wrap64 (((rd_T43 t130 x12_1).f1) + ((rd_T43 x11_1 (ji29)).f1))), .int .i64 x137002_3, .int .i64 (wrap64 (((rd_T43 t130 x12_1).f3) + ((rd_T43 x11_1 (ji29)).f3)))]) (j := 0) hcl37 hcc37 (show 4 ≤ 4 from by decide) (x' := (⟨x137000_3, wrap64 (((rd_T43 t130 x12_1).f1) + ((rd_T43 x11_1 (ji29)).f1)), x137002_3, wrap64 (((rd_T43 t130 x12_1).f3) + ((rd_T43 x11_1 (ji29)).f3))⟩ : S43)) (k43_mkM _ _ _ (⟨x137000_3, wrap64 (((rd_T43 t130 x12_1).f1) + ((rd_T43 x11_1 (ji29)).f1)), x137002_3, wrap64 (((rd_T43 t130 x12_1).f3) + ((rd_T43 x11_1 (ji29)).f3))⟩ : S43) ) (fun _ hk => hk)).1
                 rw [← Ny141.out] at HP37
                 have HQ37 := Aside0.mk HP37
                 clear hcl37 hcc37 hfr37 hM37 HP37
                 refine start_ (n := 22) (S := fun w' => w'.cell? ⟨gb136, 0, none⟩ = some (.int .i64 x137000_3) ∧ w'.cell? ⟨gb136, 1, none⟩ = some (.int .i64 ((rd_T43 t130 x12_1).f1)) ∧ w'.cell? ⟨gb136, 2, none⟩ = some (.int .i64 x137002_3) ∧ w'.cell? ⟨gb136, 3, none⟩ = some (.int .i64 ((rd_T43 t130 x12_1).f3)) ∧ w'.cell? ⟨go32, (ji29).toNat * 4 + 1, none⟩ = some (.int .i64 ((rd_T43 x11_1 (ji29)).f1)) ∧ w'.cell? ⟨go32, (ji29).toNat * 4 + 3, none⟩ = some (.int .i64 ((rd_T43 x11_1 (ji29)).f3))) (ds := [21]) #[false, false, false, false, false, false, false, false, false, false, false, false, false, false, false, false, false, false, false, false, false, false] (by kernel_rfl) rfl rfl ⟨(blk_cell BK136.out 0).trans rfl, (blk_cell BK136.out 1).trans rfl, (blk_cell BK136.out 2).trans rfl, (blk_cell BK136.out 3).trans rfl, hx32_1, hx32_3⟩ (fun hHeld => ?_); refine with_tabW slide_Slide.tab20 slide_Slide.bits20 (fun HT_ HW_ => ?_)
                 generalize w34.drew = w36 at HO_9 HO_11 BK136 HB GG32 HQ37 hf32_0 hf32_1 hf32_2 hf32_3 hx140_0 hx140_1 hx140_2 hx140_3 hx32_0 hx32_1 hx32_2 hx32_3 hHeld ⊢
                 refine pure_ (i := 0) (N := some 101) (v := ?_) (a' := ?_) #[true, false, false, false, false, false, false, false, false, false, false, false, false, false, false, false, false, false, false, false, false, false] rfl rfl (any_of HT_.out (by kernel_rfl)) (fun _ _ _ h => h) (Or.inl ⟨by rfl, ?_⟩) ?_ ?_
                 rotate_left
                 ·intro w'
                  go_simp
                  with_reducible rfl
                 rotate_left
                 ·simp only [Act.put, List.setIfInBounds_toArray, List.set_cons_zero, List.set_cons_succ, i64_w, i32_w]
                  rfl
                 refine pure_ (i := 1) (N := some 102) (v := ?_) (a' := ?_) #[true, true, false, false, false, false, false, false, false, false, false, false, false, false, false, false, false, false, false, false, false, false] rfl rfl (any_of HT_.out (by kernel_rfl)) (fun _ _ _ h => h) (Or.inl ⟨by rfl, ?_⟩) ?_ ?_
                 rotate_left
                 ·intro w'
                  go_simp
                  with_reducible rfl
                 rotate_left
                 ·simp only [Act.put, List.setIfInBounds_toArray, List.set_cons_zero, List.set_cons_succ, i64_w, i32_w]
                  rfl
                 refine pure_ (i := 3) (N := some 104) (v := ?_) (a' := ?_) #[true, true, false, true, false, false, false, false, false, false, false, false, false, false, false, false, false, false, false, false, false, false] rfl rfl (any_of HT_.out (by kernel_rfl)) (fun _ _ _ h => h) (Or.inl ⟨by rfl, ?_⟩) ?_ ?_
                 rotate_left
                 ·intro w'
                  go_simp
                  with_reducible rfl
                 rotate_left
                 ·simp only [Act.put, List.setIfInBounds_toArray, List.set_cons_zero, List.set_cons_succ, i64_w, i32_w]
                  rfl
                 refine pure_ (i := 5) (N := some 106) (v := ?_) (a' := ?_) #[true, true, false, true, false, true, false, false, false, false, false, false, false, false, false, false, false, false, false, false, false, false] rfl rfl (any_of HT_.out (by kernel_rfl)) (fun _ _ _ h => h) (Or.inl ⟨by rfl, ?_⟩) ?_ ?_
                 rotate_left
                 ·intro w'
                  go_simp
                  with_reducible rfl
                 rotate_left
                 ·simp only [Act.put, List.setIfInBounds_toArray, List.set_cons_zero, List.set_cons_succ, i64_w, i32_w]
                  rfl
                 refine pure_ (i := 6) (N := some 107) (v := ?_) (a' := ?_) #[true, true, false, true, false, true, true, false, false, false, false, false, false, false, false, false, false, false, false, false, false, false] rfl rfl (any_of HT_.out (by kernel_rfl)) (fun _ _ _ h => h) (Or.inl ⟨by rfl, ?_⟩) ?_ ?_
                 rotate_left
                 ·intro w'
                  go_simp
                  with_reducible rfl
                 rotate_left
                 ·simp only [Act.put, List.setIfInBounds_toArray, List.set_cons_zero, List.set_cons_succ, i64_w, i32_w]
                  rfl
                 refine pure_ (i := 7) (N := some 108) (v := ?_) (a' := ?_) #[true, true, false, true, false, true, true, true, false, false, false, false, false, false, false, false, false, false, false, false, false, false] rfl rfl (any_of HT_.out (by kernel_rfl)) (fun _ _ _ h => h) (Or.inl ⟨by rfl, ?_⟩) ?_ ?_
                 rotate_left
                 ·intro w'
                  go_simp
                  with_reducible rfl
                 rotate_left
                 ·simp only [Act.put, List.setIfInBounds_toArray, List.set_cons_zero, List.set_cons_succ, i64_w, i32_w]
                  rfl
                 refine pure_ (i := 10) (N := some 111) (v := ?_) (a' := ?_) #[true, true, false, true, false, true, true, true, false, false, true, false, false, false, false, false, false, false, false, false, false, false] rfl rfl (any_of HT_.out (by kernel_rfl)) (fun _ _ _ h => h) (Or.inl ⟨by rfl, ?_⟩) ?_ ?_
                 rotate_left
                 ·intro w'
                  go_simp
                  with_reducible rfl
                 rotate_left
                 ·simp only [Act.put, List.setIfInBounds_toArray, List.set_cons_zero, List.set_cons_succ, i64_w, i32_w]
                  rfl
                 refine pure_ (i := 12) (N := some 113) (v := ?_) (a' := ?_) #[true, true, false, true, false, true, true, true, false, false, true, false, true, false, false, false, false, false, false, false, false, false] rfl rfl (any_of HT_.out (by kernel_rfl)) (fun _ _ _ h => h) (Or.inl ⟨by rfl, ?_⟩) ?_ ?_
                 rotate_left
                 ·intro w'
                  go_simp
                  with_reducible rfl
                 rotate_left
                 ·simp only [Act.put, List.setIfInBounds_toArray, List.set_cons_zero, List.set_cons_succ, i64_w, i32_w]
                  rfl
                 refine pure_ (i := 14) (N := some 115) (v := ?_) (a' := ?_) #[true, true, false, true, false, true, true, true, false, false, true, false, true, false, true, false, false, false, false, false, false, false] rfl rfl (any_of HT_.out (by kernel_rfl)) (fun _ _ _ h => h) (Or.inl ⟨by rfl, ?_⟩) ?_ ?_
                 rotate_left
                 ·intro w'
                  go_simp
                  with_reducible rfl
                 rotate_left
                 ·simp only [Act.put, List.setIfInBounds_toArray, List.set_cons_zero, List.set_cons_succ, i64_w, i32_w]
                  rfl
                 refine pure_ (i := 15) (N := some 116) (v := ?_) (a' := ?_) #[true, true, false, true, false, true, true, true, false, false, true, false, true, false, true, true, false, false, false, false, false, false] rfl rfl (any_of HT_.out (by kernel_rfl)) (fun _ _ _ h => h) (Or.inl ⟨by rfl, ?_⟩) ?_ ?_
                 rotate_left
                 ·intro w'
                  go_simp
                  with_reducible rfl
                 rotate_left
                 ·simp only [Act.put, List.setIfInBounds_toArray, List.set_cons_zero, List.set_cons_succ, i64_w, i32_w]
                  rfl
                 refine pure_ (i := 16) (N := some 117) (v := ?_) (a' := ?_) #[true, true, false, true, false, true, true, true, false, false, true, false, true, false, true, true, true, false, false, false, false, false] rfl rfl (any_of HT_.out (by kernel_rfl)) (fun _ _ _ h => h) (Or.inl ⟨by rfl, ?_⟩) ?_ ?_
                 rotate_left
                 ·intro w'
                  go_simp
                  with_reducible rfl
                 rotate_left
                 ·simp only [Act.put, List.setIfInBounds_toArray, List.set_cons_zero, List.set_cons_succ, i64_w, i32_w]
                  rfl
                 refine take_ (i := 2) (N := some 103) (v := ?_) (a' := ?_) #[true, true, true, true, false, true, true, true, false, false, true, false, true, false, true, true, true, false, false, false, false, false] rfl rfl (take_ofW HT_.out HW_.out (by kernel_rfl)) (fun _ _ _ h => h) (Or.inl ⟨by rfl, ?_⟩) hHeld ?_ ?_
                 rotate_left
                 ·rintro w' ⟨s0, s1, s2, s3⟩
                  go_simp
                  with_reducible rfl
                 rotate_left
                 ·simp only [Act.put, List.setIfInBounds_toArray, List.set_cons_zero, List.set_cons_succ, i64_w, i32_w]
                  rfl
                 refine take_ (i := 4) (N := some 105) (v := ?_) (a' := ?_) #[true, true, true, true, true, true, true, true, false, false, true, false, true, false, true, true, true, false, false, false, false, false] rfl rfl (take_ofW HT_.out HW_.out (by kernel_rfl)) (fun _ _ _ h => h) (Or.inl ⟨by rfl, ?_⟩) hHeld ?_ ?_
                 rotate_left
                 ·rintro w' ⟨s0, s1, s2, s3⟩
                  go_simp
                  with_reducible rfl
                 rotate_left
                 ·simp only [Act.put, List.setIfInBounds_toArray, List.set_cons_zero, List.set_cons_succ, i64_w, i32_w]
                  rfl
                 refine take_ (i := 8) (N := some 109) (v := ?_) (a' := ?_) #[true, true, true, true, true, true, true, true, true, false, true, false, true, false, true, true, true, false, false, false, false, false] rfl rfl (take_ofW HT_.out HW_.out (by kernel_rfl)) (fun _ _ _ h => h) (Or.inl ⟨by rfl, ?_⟩) hHeld ?_ ?_
                 rotate_left
                 ·rintro w' ⟨s0, s1, s2, s3⟩
                  go_simp
                  with_reducible rfl
                 rotate_left
                 ·simp only [Act.put, List.setIfInBounds_toArray, List.set_cons_zero, List.set_cons_succ, i64_w, i32_w]
                  rfl
                 refine pure_ (i := 9) (N := some 110) (v := ?_) (a' := ?_) #[true, true, true, true, true, true, true, true, true, true, true, false, true, false, true, true, true, false, false, false, false, false] rfl rfl (any_of HT_.out (by kernel_rfl)) (fun _ _ _ h => h) (Or.inl ⟨by rfl, ?_⟩) ?_ ?_
                 rotate_left
                 ·intro w'
                  go_simp
                  with_reducible rfl
                 rotate_left
                 ·simp only [Act.put, List.setIfInBounds_toArray, List.set_cons_zero, List.set_cons_succ, i64_w, i32_w]
                  rfl
                 refine take_ (i := 11) (N := some 112) (v := ?_) (a' := ?_) #[true, true, true, true, true, true, true, true, true, true, true, true, true, false, true, true, true, false, false, false, false, false] rfl rfl (take_ofW HT_.out HW_.out (by kernel_rfl)) (fun _ _ _ h => h) (Or.inl ⟨by rfl, ?_⟩) hHeld ?_ ?_
                 rotate_left
                 ·rintro w' ⟨s0, s1, s2, s3⟩
                  go_simp
                  with_reducible rfl
                 rotate_left
                 ·simp only [Act.put, List.setIfInBounds_toArray, List.set_cons_zero, List.set_cons_succ, i64_w, i32_w]
                  rfl
                 refine take_ (i := 13) (N := some 114) (v := ?_) (a' := ?_) #[true, true, true, true, true, true, true, true, true, true, true, true, true, true, true, true, true, false, false, false, false, false] rfl rfl (take_ofW HT_.out HW_.out (by kernel_rfl)) (fun _ _ _ h => h) (Or.inl ⟨by rfl, ?_⟩) hHeld ?_ ?_
                 rotate_left
                 ·rintro w' ⟨s0, s1, s2, s3⟩
                  go_simp
                  with_reducible rfl
                 rotate_left
                 ·simp only [Act.put, List.setIfInBounds_toArray, List.set_cons_zero, List.set_cons_succ, i64_w, i32_w]
                  rfl
                 refine take_ (i := 17) (N := some 118) (v := ?_) (a' := ?_) #[true, true, true, true, true, true, true, true, true, true, true, true, true, true, true, true, true, true, false, false, false, false] rfl rfl (take_ofW HT_.out HW_.out (by kernel_rfl)) (fun _ _ _ h => h) (Or.inl ⟨by rfl, ?_⟩) hHeld ?_ ?_
                 rotate_left
                 ·rintro w' ⟨s0, s1, s2, s3⟩
                  go_simp
                  with_reducible rfl
                 rotate_left
                 ·simp only [Act.put, List.setIfInBounds_toArray, List.set_cons_zero, List.set_cons_succ, i64_w, i32_w]
                  rfl
                 refine pure_ (i := 18) (N := some 119) (v := ?_) (a' := ?_) #[true, true, true, true, true, true, true, true, true, true, true, true, true, true, true, true, true, true, true, false, false, false] rfl rfl (any_of HT_.out (by kernel_rfl)) (fun _ _ _ h => h) (Or.inl ⟨by rfl, ?_⟩) ?_ ?_
                 rotate_left
                 ·intro w'
                  go_simp
                  with_reducible rfl
                 rotate_left
                 ·simp only [Act.put, List.setIfInBounds_toArray, List.set_cons_zero, List.set_cons_succ, i64_w, i32_w]
                  rfl
                 refine pure_ (i := 19) (N := some 120) (v := ?_) (a' := ?_) #[true, true, true, true, true, true, true, true, true, true, true, true, true, true, true, true, true, true, true, true, false, false] rfl rfl (any_of HT_.out (by kernel_rfl)) (fun _ _ _ h => h) (Or.inl ⟨by rfl, ?_⟩) ?_ ?_
                 rotate_left
                 ·intro w'
                  go_simp
                  with_reducible rfl
                 rotate_left
                 ·simp only [Act.put, List.setIfInBounds_toArray, List.set_cons_zero, List.set_cons_succ, i64_w, i32_w]
                  rfl
                 refine pure_ (i := 20) (N := some 121) (v := ?_) (a' := ?_) #[true, true, true, true, true, true, true, true, true, true, true, true, true, true, true, true, true, true, true, true, true, false] rfl rfl (any_of HT_.out (by kernel_rfl)) (fun _ _ _ h => h) (Or.inl ⟨by rfl, ?_⟩) ?_ ?_
                 rotate_left
                 ·intro w'
                  go_simp
                  with_reducible rfl
                 rotate_left
                 ·simp only [Act.put, List.setIfInBounds_toArray, List.set_cons_zero, List.set_cons_succ, i64_w, i32_w]
                  rfl
                 refine last_ (i := 21) (N := none) #[true, true, true, true, true, true, true, true, true, true, true, true, true, true, true, true, true, true, true, true, true, true] rfl rfl (one_of HT_.out (by kernel_rfl)) (by decide) (fun K hK => ?_)
                 refine skip_ (w1 := ?_) (by rfl) rfl ?_ ?_
                 rotate_left
                 ·go_simp
                  rfl
                 refine hK.out _ _ ?_
                 clear hK K
                 refine done_ (done_of HT_.out (by kernel_rfl)) ?_
                 try go_wp2
                 go_roundg k3
                 case measure => have := HK1.out; have := HJ11.out; have := HK3.out; omega
                 case rel => exact ⟨(y141), (wrap64 (x12_1 - 1)), eqNow, H', ⟨by have := HK1.out; have := HJ11.out; have := HK3.out; omega⟩, ⟨by (with_reducible repeat (first | apply Kd.R_alloc | apply Kd.R_drewN | apply Kd.R_drew)); exact Kd.R_mono (Kd.R_far (p := ⟨go32, ((ji29) : Int).toNat * 4 + 3, none⟩) (Kd.R_far (p := ⟨go32, ((ji29) : Int).toNat * 4 + 2, none⟩) (Kd.R_far (p := ⟨go32, ((ji29) : Int).toNat * 4 + 1, none⟩) (Kd.R_far (p := ⟨go32, ((ji29) : Int).toNat * 4, none⟩) (Kd.R_mono HO_9.out (fun k_ hk => (⟨hk, fun e_ => hk.1 (by rw [e_]; rfl)⟩ : _ ∧ k_ ≠ go32))) (fun _ hk => hk.2) (.int .i64 x137000_3)) (fun _ hk => hk.2) (.int .i64 (wrap64 (((rd_T43 t130 x12_1).f1) + ((rd_T43 x11_1 (ji29)).f1))))) (fun _ hk => hk.2) (.int .i64 x137002_3)) (fun _ hk => hk.2) (.int .i64 (wrap64 (((rd_T43 t130 x12_1).f3) + ((rd_T43 x11_1 (ji29)).f3))))) (fun _ hk => hk.1.1)⟩, ⟨by (with_reducible repeat (first | apply Kd.R_alloc | apply Kd.R_drewN | apply Kd.R_drew)); exact Kd.R_mono HQ37.out (fun _ hk => hk.1)⟩, ⟨by repeat (first | (with_reducible first | exact HB.out | apply below_alloc | apply pw_below_drewN | apply below_drew1 | refine below_set ?_ GB32.out | refine below_set ?_ GB32.out | refine below_set ?_ GB32.out | refine below_set ?_ GB32.out | refine below_set ?_ GE136.out) | exact HB.out)⟩⟩
                ·rw [if_neg c31] at H
                 exact absurd H (by simp)
               ·rw [if_neg c30] at H
                exact absurd H (by simp)
              ·rw [if_neg c28] at H
               have c28b0 : ((wrap64 (x137000_3 + ((rd_T43 t130 x12_1).f1))) == x14_11) = false := beq_eq_false_iff_ne.mpr c28
               have c28b1 : ((wrap64 (x137000_3 + ((rd_T43 t130 x12_1).f1))) != x14_11) = true := bne_iff_ne.mpr c28
               by_cases c38 : x11_1.length < 4398046511104
               ·rw [if_pos c38] at H
                have LMc38 := Aside0.mk c38
                clear c38
                obtain ⟨y142, hy142⟩ : ∃ y_ : List (S43), y_ = (x11_1 ++ [(⟨x137000_3, ((rd_T43 t130 x12_1).f1), x137002_3, ((rd_T43 t130 x12_1).f3)⟩ : S43)]) := ⟨_, rfl⟩
                replace H : (slide_Slide.l0 k3 l1 l2 t130 y142 (wrap64 (x12_1 - 1))) = some (r1, r2) := by first | (rw [hy142]; with_reducible exact H) | (have H2_ := (Option.bind_some _ _).symm.trans H; rw [hy142]; with_reducible exact H2_) | (have H2_ := (Option.bind_some _ _).symm.trans H; with_reducible exact H2_) | with_reducible exact H | (rw [hy142]; exact H) | exact H
                have Ny142 := Aside0.mk hy142
                clear hy142
                have H' := Aside0.mk H
                clear H
                have hcz39_0 : wr.cell? ⟨gb136, 0, none⟩ = some (.int .i64 x137000_3) := (blk_cell BK136.out 0).trans rfl
                have hcz39_1 : wr.cell? ⟨gb136, 1, none⟩ = some (.int .i64 ((rd_T43 t130 x12_1).f1)) := (blk_cell BK136.out 1).trans rfl
                have hcz39_2 : wr.cell? ⟨gb136, 2, none⟩ = some (.int .i64 x137002_3) := (blk_cell BK136.out 2).trans rfl
                have hcz39_3 : wr.cell? ⟨gb136, 3, none⟩ = some (.int .i64 ((rd_T43 t130 x12_1).f3)) := (blk_cell BK136.out 3).trans rfl
                have hfz39_0 := blk_frozen BK136.out 0
                have hfz39_1 := blk_frozen BK136.out 1
                have hfz39_2 := blk_frozen BK136.out 2
                have hfz39_3 := blk_frozen BK136.out 3
                go_wp2_with (first | ((with_reducible refine gate_callee (f := 19) rfl ?_); refine goesL_ (some 75) rfl rfl Tryd.func19 (by kernel_rfl) rfl #[.agg #[.int .i64 x137000_3, .int .i64 ((rd_T43 t130 x12_1).f1), .int .i64 x137002_3, .int .i64 ((rd_T43 t130 x12_1).f3)], .slice A1 l1.length c1, .slice A2 l2.length c2, .int .i64 x14_11, .int .i64 x15_11] rfl argsOk ?_; (with_reducible refine (slide_slides.calls k3 x137000_3 ((rd_T43 t130 x12_1).f1) x137002_3 ((rd_T43 t130 x12_1).f3) _ _ l1 _ _ l2 x14_11 x15_11 false _ ?side1 ?side2 ?side3 ?side4 A22.out).mono ?_); (case side1 => repeat (first | exact (Kd.C_below HR1.out HB.out) | (with_reducible refine Kd.C_alloc ?_ _) | (with_reducible refine Kd.C_drewN ?_ _) | (with_reducible refine Kd.C_drew ?_))); (case side2 => exact HC1.out); (case side3 => repeat (first | exact (Kd.C_below HR2.out HB.out) | (with_reducible refine Kd.C_alloc ?_ _) | (with_reducible refine Kd.C_drewN ?_ _) | (with_reducible refine Kd.C_drew ?_))); (case side4 => exact HC2.out); rintro e w40 ⟨rfl, hb⟩; refine ⟨_, rfl, ?_⟩; have n0_ := Aside0.mk (Kd.R_below (kdUp HO_9.out) hb); have n1_ := Aside0.mk (Kd.R_below (kdUp HO_11.out) hb); have n2_ := Aside0.mk (blk_below (g := gb136) (o := .cells #[.int .i64 x137000_3, .int .i64 ((rd_T43 t130 x12_1).f1), .int .i64 x137002_3, .int .i64 ((rd_T43 t130 x12_1).f3)] 43 (0, 0)) (bkUp BK136.out) hb); have n3_ := Aside0.mk (below_step (belPut) hb); clear HO_9; clear HO_11; clear BK136; clear HB; have HO_9 := n0_; have HO_11 := n1_; have BK136 := n2_; have HB := n3_; clear n0_ n1_ n2_ n3_; (try clear hb); (try clear hb2); (try clear hk); (try clear hi); have hcz41_0 : w40.cell? ⟨gb136, 0, none⟩ = some (.int .i64 x137000_3) := (blk_cell BK136.out 0).trans rfl; have hcz41_1 : w40.cell? ⟨gb136, 1, none⟩ = some (.int .i64 ((rd_T43 t130 x12_1).f1)) := (blk_cell BK136.out 1).trans rfl; have hcz41_2 : w40.cell? ⟨gb136, 2, none⟩ = some (.int .i64 x137002_3) := (blk_cell BK136.out 2).trans rfl; have hcz41_3 : w40.cell? ⟨gb136, 3, none⟩ = some (.int .i64 ((rd_T43 t130 x12_1).f3)) := (blk_cell BK136.out 3).trans rfl; have hfz41_0 := blk_frozen BK136.out 0; have hfz41_1 := blk_frozen BK136.out 1; have hfz41_2 := blk_frozen BK136.out 2; have hfz41_3 := blk_frozen BK136.out 3) | ((with_reducible refine gate_builtin (b := .append) (xs := #[.tmp 122, .tmp 124]) rfl ?_); at_builtin; refine Kd.R_append k43 (w0 := w) w.heap.size rfl (.tmp 122) (.tmp 124) 22 43 (.agg #[(.int .i64 0), (.int .i64 0), (.int .i64 0), (.int .i64 0)]) 32 rfl Tryd.underlying22 info43 rfl (by decide) (by omega) (.slice Ao15 x11_1.length co15) x11_1 (⟨x137000_3, ((rd_T43 t130 x12_1).f1), x137002_3, ((rd_T43 t130 x12_1).f3)⟩ : S43) [.int .i64 x137000_3, .int .i64 ((rd_T43 t130 x12_1).f1), .int .i64 x137002_3, .int .i64 ((rd_T43 t130 x12_1).f3)] (fun k_ => some k_ ≠ (.slice (some ad135) t130.length co8 : Value).ownBlock ∧ k_ ≠ gb136) (fun _ => False) rfl rfl ?aP (fun _ hk => hk.elim) ?aF ?aO ?aB ?aS ?aL ?_; (case aP => exact k43_mkM _ _ _ (⟨x137000_3, ((rd_T43 t130 x12_1).f1), x137002_3, ((rd_T43 t130 x12_1).f3)⟩ : S43)); (case aB => exact (belPut)); (case aF => exact (fun k_ hk => ⟨Kd.fresh' (Kd.R_lt (kdUp HO_9.out)) k_ hk, Kd.freshB (g := gb136) (o := .cells #[.int .i64 x137000_3, .int .i64 ((rd_T43 t130 x12_1).f1), .int .i64 x137002_3, .int .i64 ((rd_T43 t130 x12_1).f3)] 43 (0, 0)) (bkUp BK136.out) k_ hk⟩)); (case aO => exact (kdUp HO_11.out)); (case aS => exact (below_size (belPut))); (case aL => have := LMc38.out; omega); intro v143 w42 ho hb hg hat; rw [← Ny142.out] at ho; have n0_ := Aside0.mk (Kd.R_after (ok := (fun k_ => k_ ≠ gb136)) (by (with_reducible repeat (first | apply Kd.R_alloc | apply Kd.R_drewN | apply Kd.R_drew)); exact Kd.R_mono HO_9.out (fun _ hk => ⟨hk.2, hk.1⟩)) hg hat); have n1_ := Aside0.mk (blk_grown (g := gb136) (o := .cells #[.int .i64 x137000_3, .int .i64 ((rd_T43 t130 x12_1).f1), .int .i64 x137002_3, .int .i64 ((rd_T43 t130 x12_1).f3)] 43 (0, 0)) (bkUp BK136.out) hg (Kd.R_away HO_11.out (fun _ hk => hk.2))); have n2_ := Aside0.mk (hb); have n3_ := Aside0.mk (ho); clear HO_9; clear BK136; clear HB; clear HO_11; have HO_9 := n0_; have BK136 := n1_; have HB := n2_; have HO144 := n3_; clear n0_ n1_ n2_ n3_; clear ho hb hg hat))
                go_roundg k3
                case measure => have := HK1.out; have := HJ11.out; have := HK3.out; omega
                case rel => exact ⟨(y142), (wrap64 (x12_1 - 1)), eqNow, H', ⟨by have := HK1.out; have := HJ11.out; have := HK3.out; omega⟩, ⟨by (with_reducible repeat (first | apply Kd.R_alloc | apply Kd.R_drewN | apply Kd.R_drew)); exact Kd.R_mono HO_9.out (fun _ hk => hk.2)⟩, ⟨by (with_reducible repeat (first | apply Kd.R_alloc | apply Kd.R_drewN | apply Kd.R_drew)); exact Kd.R_mono HO144.out (fun _ hk => hk.1)⟩, ⟨belPut⟩⟩
               ·rw [if_neg c38] at H
                exact absurd H (by simp)
             ·rw [if_neg c27] at H
              have c27b0 : decide (0 < (x11_1.length : Int)) = false := decide_eq_false c27
              have c27b1 : decide (0 < x11_1.length) = false := decide_eq_false (by omega)
              have c27b2 : ¬ 0 < x11_1.length := of_decide_eq_false c27b1
              clear c27
              by_cases c43 : x11_1.length < 4398046511104
              ·rw [if_pos c43] at H
               have LMc43 := Aside0.mk c43
               clear c43
               obtain ⟨y145, hy145⟩ : ∃ y_ : List (S43), y_ = (x11_1 ++ [(⟨x137000_3, ((rd_T43 t130 x12_1).f1), x137002_3, ((rd_T43 t130 x12_1).f3)⟩ : S43)]) := ⟨_, rfl⟩
               replace H : (slide_Slide.l0 k3 l1 l2 t130 y145 (wrap64 (x12_1 - 1))) = some (r1, r2) := by first | (rw [hy145]; with_reducible exact H) | (have H2_ := (Option.bind_some _ _).symm.trans H; rw [hy145]; with_reducible exact H2_) | (have H2_ := (Option.bind_some _ _).symm.trans H; with_reducible exact H2_) | with_reducible exact H | (rw [hy145]; exact H) | exact H
               have Ny145 := Aside0.mk hy145
               clear hy145
               have H' := Aside0.mk H
               clear H
               have hcz44_0 : wr.cell? ⟨gb136, 0, none⟩ = some (.int .i64 x137000_3) := (blk_cell BK136.out 0).trans rfl
               have hcz44_1 : wr.cell? ⟨gb136, 1, none⟩ = some (.int .i64 ((rd_T43 t130 x12_1).f1)) := (blk_cell BK136.out 1).trans rfl
               have hcz44_2 : wr.cell? ⟨gb136, 2, none⟩ = some (.int .i64 x137002_3) := (blk_cell BK136.out 2).trans rfl
               have hcz44_3 : wr.cell? ⟨gb136, 3, none⟩ = some (.int .i64 ((rd_T43 t130 x12_1).f3)) := (blk_cell BK136.out 3).trans rfl
               have hfz44_0 := blk_frozen BK136.out 0
               have hfz44_1 := blk_frozen BK136.out 1
               have hfz44_2 := blk_frozen BK136.out 2
               have hfz44_3 := blk_frozen BK136.out 3
               go_wp2_with (first | ((with_reducible refine gate_callee (f := 19) rfl ?_); refine goesL_ (some 75) rfl rfl Tryd.func19 (by kernel_rfl) rfl #[.agg #[.int .i64 x137000_3, .int .i64 ((rd_T43 t130 x12_1).f1), .int .i64 x137002_3, .int .i64 ((rd_T43 t130 x12_1).f3)], .slice A1 l1.length c1, .slice A2 l2.length c2, .int .i64 x14_11, .int .i64 x15_11] rfl argsOk ?_; (with_reducible refine (slide_slides.calls k3 x137000_3 ((rd_T43 t130 x12_1).f1) x137002_3 ((rd_T43 t130 x12_1).f3) _ _ l1 _ _ l2 x14_11 x15_11 false _ ?side1 ?side2 ?side3 ?side4 A22.out).mono ?_); (case side1 => repeat (first | exact (Kd.C_below HR1.out HB.out) | (with_reducible refine Kd.C_alloc ?_ _) | (with_reducible refine Kd.C_drewN ?_ _) | (with_reducible refine Kd.C_drew ?_))); (case side2 => exact HC1.out); (case side3 => repeat (first | exact (Kd.C_below HR2.out HB.out) | (with_reducible refine Kd.C_alloc ?_ _) | (with_reducible refine Kd.C_drewN ?_ _) | (with_reducible refine Kd.C_drew ?_))); (case side4 => exact HC2.out); rintro e w45 ⟨rfl, hb⟩; refine ⟨_, rfl, ?_⟩; have n0_ := Aside0.mk (Kd.R_below (kdUp HO_9.out) hb); have n1_ := Aside0.mk (Kd.R_below (kdUp HO_11.out) hb); have n2_ := Aside0.mk (blk_below (g := gb136) (o := .cells #[.int .i64 x137000_3, .int .i64 ((rd_T43 t130 x12_1).f1), .int .i64 x137002_3, .int .i64 ((rd_T43 t130 x12_1).f3)] 43 (0, 0)) (bkUp BK136.out) hb); have n3_ := Aside0.mk (below_step (belPut) hb); clear HO_9; clear HO_11; clear BK136; clear HB; have HO_9 := n0_; have HO_11 := n1_; have BK136 := n2_; have HB := n3_; clear n0_ n1_ n2_ n3_; (try clear hb); (try clear hb2); (try clear hk); (try clear hi); have hcz46_0 : w45.cell? ⟨gb136, 0, none⟩ = some (.int .i64 x137000_3) := (blk_cell BK136.out 0).trans rfl; have hcz46_1 : w45.cell? ⟨gb136, 1, none⟩ = some (.int .i64 ((rd_T43 t130 x12_1).f1)) := (blk_cell BK136.out 1).trans rfl; have hcz46_2 : w45.cell? ⟨gb136, 2, none⟩ = some (.int .i64 x137002_3) := (blk_cell BK136.out 2).trans rfl; have hcz46_3 : w45.cell? ⟨gb136, 3, none⟩ = some (.int .i64 ((rd_T43 t130 x12_1).f3)) := (blk_cell BK136.out 3).trans rfl; have hfz46_0 := blk_frozen BK136.out 0; have hfz46_1 := blk_frozen BK136.out 1; have hfz46_2 := blk_frozen BK136.out 2; have hfz46_3 := blk_frozen BK136.out 3) | ((with_reducible refine gate_builtin (b := .append) (xs := #[.tmp 122, .tmp 124]) rfl ?_); at_builtin; refine Kd.R_append k43 (w0 := w) w.heap.size rfl (.tmp 122) (.tmp 124) 22 43 (.agg #[(.int .i64 0), (.int .i64 0), (.int .i64 0), (.int .i64 0)]) 32 rfl Tryd.underlying22 info43 rfl (by decide) (by omega) (.slice Ao15 x11_1.length co15) x11_1 (⟨x137000_3, ((rd_T43 t130 x12_1).f1), x137002_3, ((rd_T43 t130 x12_1).f3)⟩ : S43) [.int .i64 x137000_3, .int .i64 ((rd_T43 t130 x12_1).f1), .int .i64 x137002_3, .int .i64 ((rd_T43 t130 x12_1).f3)] (fun k_ => some k_ ≠ (.slice (some ad135) t130.length co8 : Value).ownBlock ∧ k_ ≠ gb136) (fun _ => False) rfl rfl ?aP (fun _ hk => hk.elim) ?aF ?aO ?aB ?aS ?aL ?_; (case aP => exact k43_mkM _ _ _ (⟨x137000_3, ((rd_T43 t130 x12_1).f1), x137002_3, ((rd_T43 t130 x12_1).f3)⟩ : S43)); (case aB => exact (belPut)); (case aF => exact (fun k_ hk => ⟨Kd.fresh' (Kd.R_lt (kdUp HO_9.out)) k_ hk, Kd.freshB (g := gb136) (o := .cells #[.int .i64 x137000_3, .int .i64 ((rd_T43 t130 x12_1).f1), .int .i64 x137002_3, .int .i64 ((rd_T43 t130 x12_1).f3)] 43 (0, 0)) (bkUp BK136.out) k_ hk⟩)); (case aO => exact (kdUp HO_11.out)); (case aS => exact (below_size (belPut))); (case aL => have := LMc43.out; omega); intro v146 w47 ho hb hg hat; rw [← Ny145.out] at ho; have n0_ := Aside0.mk (Kd.R_after (ok := (fun k_ => k_ ≠ gb136)) (by (with_reducible repeat (first | apply Kd.R_alloc | apply Kd.R_drewN | apply Kd.R_drew)); exact Kd.R_mono HO_9.out (fun _ hk => ⟨hk.2, hk.1⟩)) hg hat); have n1_ := Aside0.mk (blk_grown (g := gb136) (o := .cells #[.int .i64 x137000_3, .int .i64 ((rd_T43 t130 x12_1).f1), .int .i64 x137002_3, .int .i64 ((rd_T43 t130 x12_1).f3)] 43 (0, 0)) (bkUp BK136.out) hg (Kd.R_away HO_11.out (fun _ hk => hk.2))); have n2_ := Aside0.mk (hb); have n3_ := Aside0.mk (ho); clear HO_9; clear BK136; clear HB; clear HO_11; have HO_9 := n0_; have BK136 := n1_; have HB := n2_; have HO147 := n3_; clear n0_ n1_ n2_ n3_; clear ho hb hg hat))
               go_roundg k3
               case measure => have := HK1.out; have := HJ11.out; have := HK3.out; omega
               case rel => exact ⟨(y145), (wrap64 (x12_1 - 1)), eqNow, H', ⟨by have := HK1.out; have := HJ11.out; have := HK3.out; omega⟩, ⟨by (with_reducible repeat (first | apply Kd.R_alloc | apply Kd.R_drewN | apply Kd.R_drew)); exact Kd.R_mono HO_9.out (fun _ hk => hk.2)⟩, ⟨by (with_reducible repeat (first | apply Kd.R_alloc | apply Kd.R_drewN | apply Kd.R_drew)); exact Kd.R_mono HO147.out (fun _ hk => hk.1)⟩, ⟨belPut⟩⟩
              ·rw [if_neg c43] at H
               exact absurd H (by simp)
       ·rw [if_neg c11] at H
        exact absurd H (by simp)
      ·rw [if_neg c10] at H
       exact absurd H (by simp)
     ·rw [if_neg c9] at H
      have c9b0 : decide (0 ≤ x12_1) = false := decide_eq_false c9
      clear c9
      have H' := Aside0.mk H
      clear H
      obtain ⟨Ao48, co48, eo48⟩ := Kd.R_slice HO_11.out
      subst eo48
      go_wp2
      go_loopg [17, 18] k1 (fun kq v17 v18 w' => ∃ (x17_2 : List (S43)) (x18_2 : Int), v18 = .int .i64 x18_2 ∧ Aside0 (slide_Slide.l2 kq x11_1 x17_2 x18_2 = some (r1, r2)) ∧ Aside0 (kq ≤ k1) ∧ Aside0 (Kd.R k43 43 w' w.heap.size (fun k_ => some k_ ≠ (v17 : Value).ownBlock) (.slice Ao48 x11_1.length co48) x11_1) ∧ Aside0 (Kd.R k43 43 w' w.heap.size (fun k_ => some k_ ≠ ((.slice Ao48 x11_1.length co48) : Value).ownBlock) v17 x17_2) ∧ Aside0 (Below w.heap.size w w'))
      case atStart => exact ⟨(([] : List (S43))), (wrap64 ((x11_1.length : Int) - 1)), eqNow, H', ⟨Nat.le_refl _⟩, ⟨by (with_reducible repeat (first | apply Kd.R_alloc | apply Kd.R_drewN | apply Kd.R_drew)); exact Kd.R_mono HO_11.out (fun _ hk => (by simp [Value.ownBlock]))⟩, ⟨by first | exact Kd.R_nil _ _ _ _ _ | exact Kd.N_nil _ _ _ _ _ | exact Kd.V_nil _ _ _ _ _ | exact Kd.Q_nil _ _ _ _ _ | exact Kd.S_nil _ _ _ _ _⟩, ⟨belNow⟩⟩
      case round =>
       clear H'
       try clear c1
       try clear p1
       try clear q1
       try clear hx1
       try clear c2
       try clear p2
       try clear c3
       try clear p3
       try clear q3
       try clear hx3
       try clear hf3
       try clear c4
       try clear p6
       try clear c7
       try clear c9
       try clear c9b0
       try clear c10
       try clear c10b0
       try clear c11
       try clear c11b0
       try clear q12
       try clear p13
       try clear q13
       try clear hx13
       try clear p14
       try clear q14
       try clear hx14
       try clear c16
       try clear c16b0
       try clear c16b1
       try clear c17
       try clear c18
       try clear c18b0
       try clear c19
       try clear c19b0
       try clear c23
       try clear c27
       try clear c27b0
       try clear c27b1
       try clear c28
       try clear c28b0
       try clear c28b1
       try clear c30
       try clear c30b0
       try clear c31
       try clear c31b0
       try clear c32
       try clear p32
       try clear q32
       try clear hx32
       try clear hf32
       try clear c37
       try clear c38
       try clear c43
       try clear hcz14_0
       try clear hcz14_1
       try clear hcz14_2
       try clear hcz14_3
       try clear hcz24_0
       try clear hcz24_1
       try clear hcz24_2
       try clear hcz24_3
       try clear hcz26_0
       try clear hcz26_1
       try clear hcz26_2
       try clear hcz26_3
       try clear hcz33_0
       try clear hcz33_1
       try clear hcz33_2
       try clear hcz33_3
       try clear hcz35_0
       try clear hcz35_1
       try clear hcz35_2
       try clear hcz35_3
       try clear hcz39_0
       try clear hcz39_1
       try clear hcz39_2
       try clear hcz39_3
       try clear hcz41_0
       try clear hcz41_1
       try clear hcz41_2
       try clear hcz41_3
       try clear hcz44_0
       try clear hcz44_1
       try clear hcz44_2
       try clear hcz44_3
       try clear hcz46_0
       try clear hcz46_1
       try clear hcz46_2
       try clear hcz46_3
       try clear hfz14_0
       try clear hfz14_1
       try clear hfz14_2
       try clear hfz14_3
       try clear hfz24_0
       try clear hfz24_1
       try clear hfz24_2
       try clear hfz24_3
       try clear hfz26_0
       try clear hfz26_1
       try clear hfz26_2
       try clear hfz26_3
       try clear hfz33_0
       try clear hfz33_1
       try clear hfz33_2
       try clear hfz33_3
       try clear hfz35_0
       try clear hfz35_1
       try clear hfz35_2
       try clear hfz35_3
       try clear hfz39_0
       try clear hfz39_1
       try clear hfz39_2
       try clear hfz39_3
       try clear hfz41_0
       try clear hfz41_1
       try clear hfz41_2
       try clear hfz41_3
       try clear hfz44_0
       try clear hfz44_1
       try clear hfz44_2
       try clear hfz44_3
       try clear hfz46_0
       try clear hfz46_1
       try clear hfz46_2
       try clear hfz46_3
       try clear hx135_0
       try clear hx135_1
       try clear hx135_2
       try clear hx135_3
       try clear hx137_0
       try clear hx137_1
       try clear hx137_2
       try clear hx137_3
       try clear hx138_0
       try clear hx138_1
       try clear hx138_2
       try clear hx138_3
       try clear hx140_0
       try clear hx140_1
       try clear hx140_2
       try clear hx140_3
       try clear hx32_0
       try clear hx32_1
       try clear hx32_2
       try clear hx32_3
       try clear p1
       try clear p13
       try clear p135
       try clear p137
       try clear p138
       try clear p140
       try clear p2
       try clear p32
       try clear p6
       try clear q1
       try clear q12
       try clear q129
       try clear q13
       try clear q134
       try clear q135
       try clear q137
       try clear q138
       try clear q140
       try clear q32
       obtain ⟨x17_2, x18_2, rfl, HA, HK2, HO_11, HO_17, HB⟩ := hrel
       cases gk with
       | zero => exact absurd HA.out (by simp [slide_Slide.l2])
       | succ k2 =>
        have H := HA.out
        clear HA
        simp only [slide_Slide.l2] at H
        by_cases c49 : x18_2 ≥ 0
        ·rw [if_pos c49] at H
         have c49b0 : decide (0 ≤ x18_2) = true := decide_eq_true c49
         clear c49
         by_cases c50 : 0 ≤ x18_2
         ·rw [if_pos c50] at H
          have c50b0 : decide (0 ≤ x18_2) = true := decide_eq_true c50
          clear c50
          by_cases c51 : x18_2 < (x11_1.length : Int)
          ·rw [if_pos c51] at H
           have c51b0 : decide (x18_2 < (x11_1.length : Int)) = true := decide_eq_true c51
           clear c51
           by_cases c52 : x17_2.length < 4398046511104
           ·rw [if_pos c52] at H
            have LMc52 := Aside0.mk c52
            clear c52
            obtain ⟨y149, hy149⟩ : ∃ y_ : List (S43), y_ = (x17_2 ++ [(⟨(rd_T43 x11_1 x18_2).f0, (rd_T43 x11_1 x18_2).f1, (rd_T43 x11_1 x18_2).f2, (rd_T43 x11_1 x18_2).f3⟩ : S43)]) := ⟨_, rfl⟩
            replace H : (slide_Slide.l2 k2 x11_1 y149 (wrap64 (x18_2 - 1))) = some (r1, r2) := by first | (rw [hy149]; with_reducible exact H) | (have H2_ := (Option.bind_some _ _).symm.trans H; rw [hy149]; with_reducible exact H2_) | (have H2_ := (Option.bind_some _ _).symm.trans H; with_reducible exact H2_) | with_reducible exact H | (rw [hy149]; exact H) | exact H
            have Ny149 := Aside0.mk hy149
            clear hy149
            have H' := Aside0.mk H
            clear H
            have p148 : 0 ≤ (x18_2 : Int) := ofDec
            have q148 : x18_2 < (x11_1.length : Int) := ofDec
            obtain ⟨ad148, e148, hx148_0, hx148_1, hx148_2, hx148_3⟩ := at_T43 (Kd.R_reads' HO_11.out).2.2 x18_2 p148 q148
            cases e148
            replace p148 := eq_true p148
            replace q148 := eq_true q148
            go_wp2_with (first | ((with_reducible refine gate_builtin (b := .append) (xs := #[.tmp 133, .tmp 138]) rfl ?_); at_builtin; refine Kd.R_append k43 (w0 := w) w.heap.size rfl (.tmp 133) (.tmp 138) 22 43 (.agg #[(.int .i64 0), (.int .i64 0), (.int .i64 0), (.int .i64 0)]) 32 rfl Tryd.underlying22 info43 rfl (by decide) (by omega) u17 x17_2 (⟨(rd_T43 x11_1 x18_2).f0, (rd_T43 x11_1 x18_2).f1, (rd_T43 x11_1 x18_2).f2, (rd_T43 x11_1 x18_2).f3⟩ : S43) [.int .i64 ((rd_T43 x11_1 x18_2).f0), .int .i64 ((rd_T43 x11_1 x18_2).f1), .int .i64 ((rd_T43 x11_1 x18_2).f2), .int .i64 ((rd_T43 x11_1 x18_2).f3)] (fun k_ => some k_ ≠ (.slice (some ad148) x11_1.length co48 : Value).ownBlock) (fun _ => False) rfl rfl ?aP (fun _ hk => hk.elim) ?aF ?aO ?aB ?aS ?aL ?_; (case aP => exact k43_mkM _ _ _ (⟨(rd_T43 x11_1 x18_2).f0, (rd_T43 x11_1 x18_2).f1, (rd_T43 x11_1 x18_2).f2, (rd_T43 x11_1 x18_2).f3⟩ : S43)); (case aB => exact belNow); (case aF => exact (fun k_ hk => Kd.fresh' (Kd.R_lt (kdUp HO_11.out)) k_ hk)); (case aO => exact (kdUp HO_17.out)); (case aS => exact (below_size belNow)); (case aL => have := LMc52.out; omega); intro v150 w53 ho hb hg hat; rw [← Ny149.out] at ho; have n0_ := Aside0.mk (Kd.R_after (ok := (fun _ => True)) (by (with_reducible repeat (first | apply Kd.R_alloc | apply Kd.R_drewN | apply Kd.R_drew)); exact Kd.R_mono HO_11.out (fun _ hk => ⟨trivial, hk⟩)) hg hat); have n1_ := Aside0.mk (hb); have n2_ := Aside0.mk (ho); clear HO_11; clear HB; clear HO_17; have HO_11 := n0_; have HB := n1_; have HO151 := n2_; clear n0_ n1_ n2_; clear ho hb hg hat))
            go_roundg k2
            case measure => have := HK1.out; have := HK2.out; omega
            case rel => exact ⟨(y149), (wrap64 (x18_2 - 1)), eqNow, H', ⟨by have := HK1.out; have := HK2.out; omega⟩, ⟨by (with_reducible repeat (first | apply Kd.R_alloc | apply Kd.R_drewN | apply Kd.R_drew)); exact Kd.R_mono HO_11.out (fun _ hk => hk.2)⟩, ⟨by (with_reducible repeat (first | apply Kd.R_alloc | apply Kd.R_drewN | apply Kd.R_drew)); (first | exact HO151.out | exact Kd.R_mono HO151.out (fun k_ h_ h2_ => h_ (h2_.trans ((fun (A_ : Option Addr) (n_ m_ c_ : Nat) => (show (Value.slice A_ n_ c_).ownBlock = (Value.slice A_ m_ c_).ownBlock by cases A_ <;> rfl)) _ _ _ _))))⟩, ⟨belNow⟩⟩
           ·rw [if_neg c52] at H
            exact absurd H (by simp)
          ·rw [if_neg c51] at H
           exact absurd H (by simp)
         ·rw [if_neg c50] at H
          exact absurd H (by simp)
        ·rw [if_neg c49] at H
         have c49b0 : decide (0 ≤ x18_2) = false := decide_eq_false c49
         clear c49
         simp only [Option.some.injEq, Prod.mk.injEq] at H
         obtain ⟨rfl, rfl⟩ := H
         go_wp2
         go_ret2
         exact ⟨_, eqEnd, by (with_reducible repeat (first | apply Kd.R_alloc | apply Kd.R_drewN | apply Kd.R_drew)); exact Kd.R_mono HO_17.out (fun _ hk => trivial), belNow⟩
  ·have H1 : (some (([] : List (S43)), some q134)) = some (r1, r2) := by rw [if_neg (show ¬ (some q134).isNone = true by simp)] at H; exact H
   clear H
   have H := H1
   clear H1
   try simp only [errW_none, errW_some]
   simp only [Option.some.injEq, Prod.mk.injEq] at H
   obtain ⟨rfl, rfl⟩ := H
   go_enter Tryd.func7, Tryd.ntmps7
   go_wp2_with (first | ((with_reducible refine gate_callee (f := 17) rfl ?_); refine goesL_ (some 22) rfl rfl Tryd.func17 (by kernel_rfl) rfl #[.slice A0 l0.length c0, .slice A1 l1.length c1, .slice A2 l2.length c2] rfl argsOk ?_; (with_reducible refine (edits_Fits.calls k _ _ l0 _ _ l1 _ _ l2 none _ ?side1 ?side2 ?side3 ?side4 ?side5 ?side6 A4.out).mono ?_); (case side1 => repeat (first | exact HR0.out | (with_reducible refine Kd.C_alloc ?_ _) | (with_reducible refine Kd.C_drewN ?_ _) | (with_reducible refine Kd.C_drew ?_))); (case side2 => exact HC0.out); (case side3 => repeat (first | exact HR1.out | (with_reducible refine Kd.C_alloc ?_ _) | (with_reducible refine Kd.C_drewN ?_ _) | (with_reducible refine Kd.C_drew ?_))); (case side4 => exact HC1.out); (case side5 => repeat (first | exact HR2.out | (with_reducible refine Kd.C_alloc ?_ _) | (with_reducible refine Kd.C_drewN ?_ _) | (with_reducible refine Kd.C_drew ?_))); (case side6 => exact HC2.out); rintro e w54 ⟨rfl, hb⟩; refine ⟨_, rfl, ?_⟩; have n0_ := Aside0.mk (below_step belNow hb); clear HB; have HB := n0_; clear n0_; (try clear hb); (try clear hb2); (try clear hk); (try clear hi); (try simp only [errW_none, errW_some])) | ((with_reducible refine gate_callee (f := 18) rfl ?_); refine goesL_ (some 32) rfl rfl Tryd.func18 (by kernel_rfl) rfl #[.slice A0 l0.length c0, .int .i64 (l1.length : Int), .int .i64 (l2.length : Int)] rfl argsOk ?_; (with_reducible refine (edits_Normal.calls k _ _ l0 (l1.length : Int) (l2.length : Int) t130 (some q134) _ ?side1 ?side2 A5.out).mono ?_); (case side1 => repeat (first | exact (Kd.C_below HR0.out HB.out) | (with_reducible refine Kd.C_alloc ?_ _) | (with_reducible refine Kd.C_drewN ?_ _) | (with_reducible refine Kd.C_drew ?_))); (case side2 => exact HC0.out); rintro e w55 ⟨v132, rfl, ho0, hb⟩; refine ⟨_, rfl, ?_⟩; have n0_ := Aside0.mk (Kd.R_lower ho0 (below_size belNow)); have n1_ := Aside0.mk (below_step belNow hb); clear HB; have HO133 := n0_; have HB := n1_; clear n0_ n1_; (try clear hb); (try clear hb2); (try clear hk); (try clear hi); (try clear ho0); (try simp only [errW_none, errW_some])))
   go_ret2
   exact ⟨_, eqEnd, by first | exact Kd.R_nil _ _ _ _ _ | exact Kd.N_nil _ _ _ _ _ | exact Kd.V_nil _ _ _ _ _ | exact Kd.Q_nil _ _ _ _ _ | exact Kd.S_nil _ _ _ _ _, belNow⟩
 ·have H1 : (some (([] : List (S43)), some q129)) = some (r1, r2) := by rw [if_neg (show ¬ (some q129).isNone = true by simp)] at H; exact H
  clear H
  have H := H1
  clear H1
  try simp only [errW_none, errW_some]
  simp only [Option.some.injEq, Prod.mk.injEq] at H
  obtain ⟨rfl, rfl⟩ := H
  go_enter Tryd.func7, Tryd.ntmps7
  go_wp2_with (first | ((with_reducible refine gate_callee (f := 17) rfl ?_); refine goesL_ (some 22) rfl rfl Tryd.func17 (by kernel_rfl) rfl #[.slice A0 l0.length c0, .slice A1 l1.length c1, .slice A2 l2.length c2] rfl argsOk ?_; (with_reducible refine (edits_Fits.calls k _ _ l0 _ _ l1 _ _ l2 (some q129) _ ?side1 ?side2 ?side3 ?side4 ?side5 ?side6 A4.out).mono ?_); (case side1 => repeat (first | exact HR0.out | (with_reducible refine Kd.C_alloc ?_ _) | (with_reducible refine Kd.C_drewN ?_ _) | (with_reducible refine Kd.C_drew ?_))); (case side2 => exact HC0.out); (case side3 => repeat (first | exact HR1.out | (with_reducible refine Kd.C_alloc ?_ _) | (with_reducible refine Kd.C_drewN ?_ _) | (with_reducible refine Kd.C_drew ?_))); (case side4 => exact HC1.out); (case side5 => repeat (first | exact HR2.out | (with_reducible refine Kd.C_alloc ?_ _) | (with_reducible refine Kd.C_drewN ?_ _) | (with_reducible refine Kd.C_drew ?_))); (case side6 => exact HC2.out); rintro e w56 ⟨rfl, hb⟩; refine ⟨_, rfl, ?_⟩; have n0_ := Aside0.mk (below_step belNow hb); clear HB; have HB := n0_; clear n0_; (try clear hb); (try clear hb2); (try clear hk); (try clear hi); (try simp only [errW_none, errW_some])))
  go_ret2
  exact ⟨_, eqEnd, by first | exact Kd.R_nil _ _ _ _ _ | exact Kd.N_nil _ _ _ _ _ | exact Kd.V_nil _ _ _ _ _ | exact Kd.Q_nil _ _ _ _ _ | exact Kd.S_nil _ _ _ _ _, belNow⟩
end Go.Proofs.YtmfanpibpmajnaaDoor.Pp
