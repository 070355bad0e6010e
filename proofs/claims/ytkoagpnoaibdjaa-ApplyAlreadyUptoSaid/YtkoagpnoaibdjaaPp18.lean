import Derived.Test.YtkoagpnoaibdjaaESt
import Derived.Test.YtkoagpnoaibdjaaPp0
import Derived.Test.YtkoagpnoaibdjaaPp3
import Derived.Test.YtkoagpnoaibdjaaPp17
namespace Go.Proofs.Ytkoagpnoaibdjaa.Pp
open Go.RowKit Go.Proofs.Ytkoagpnoaibdjaa.Ext Go.Proofs.YtkoagpnoaibdjaaW.PrintWords Go.Proofs.YtkoagpnoaibdjaaW.PrintLast Go.Proofs.YtkoagpnoaibdjaaW.PrintMore
attribute [local go_sem] max2_int min2_int max_two min_two max_three min_three max_four min_four   -- for this text's walks alone
set_option linter.unusedVariables false
set_option linter.unusedSimpArgs false
def selvageref10_start.f (a0 : Int) (a1 : Int) : Option (Bool) := if a1 = 0 then (if a0 ≥ 0 then (some (decide (a0 ≤ (wrap64 (2147483647 - a1))))) else (some false)) else (if a0 ≥ 1 then (some (decide (a0 ≤ (wrap64 (2147483647 - a1))))) else (some false))
set_option maxHeartbeats 8000000 in
set_option maxRecDepth 100000 in
theorem selvageref10_start.calls (a0 : Int) (a1 : Int) (r : Bool) (w : World) (h : selvageref10_start.f a0 a1 = some r) :
  Calls Try.prog 69 #[.int .i64 a0, .int .i64 a1] w fun e w' => e = .returned (.bool r) ∧ Drawn0 w w' := by
 have H := h
 clear h
 unfold selvageref10_start.f at H
 replace H := itEn H
 rcases H with ⟨c3, c3b0, c3b1, H⟩ | ⟨-, c3b0, c3b1, H⟩
 ·replace H := itH H
  rcases H with ⟨-, c5b0, H⟩ | ⟨-, c5b0, H⟩
  ·obtain rfl := Option.some.inj H
   go_enter Try.func69, Try.ntmps69
   go_wp2
   go_ret
   exact ⟨eqFin, drawnNow⟩
  obtain rfl := Option.some.inj H
  go_enter Try.func69, Try.ntmps69
  go_wp2
  go_ret
  exact ⟨eqFin, drawnNow⟩
 replace H := itH H
 rcases H with ⟨-, c4b0, H⟩ | ⟨-, c4b0, H⟩
 ·obtain rfl := Option.some.inj H
  go_enter Try.func69, Try.ntmps69
  go_wp2
  go_ret
  exact ⟨eqFin, drawnNow⟩
 obtain rfl := Option.some.inj H
 go_enter Try.func69, Try.ntmps69
 go_wp2
 go_ret
 exact ⟨eqFin, drawnNow⟩
mutual
def selvageref10_Valid.j0 : Nat → Bool → Int → Int → Int → Int → ByteArray → List (S72) → Option (Int)
 | 0, _, _, _, _, _, _, _ => none
 | k + 1, x5, x448000, x448001, x448002, x448003, x448004, x448005 => selvageref10_Valid.l0 k x5 0 x448000 x448001 x448002 x448003 x448004 x448005
def selvageref10_Valid.l0 : Nat → Bool → Int → Int → Int → Int → Int → ByteArray → List (S72) → Option (Int)
 | 0, _, _, _, _, _, _, _, _ => none
 | k + 1, x5, x6, x448000, x448001, x448002, x448003, x448004, x448005 => if x6 < (x448004.size : Int) then (if x5 = true then (if 0 ≤ x6 then (selvageref10_Valid.l0 k ((bt x448004 x6) != 10) (wrap64 (x6 + 1)) x448000 x448001 x448002 x448003 x448004 x448005) else (none)) else (selvageref10_Valid.l0 k false (wrap64 (x6 + 1)) x448000 x448001 x448002 x448003 x448004 x448005)) else (if x5 = true then (some 0) else (some 100))
end
def selvageref10_Valid.f (k : Nat) (a0_0 : Int) (a0_1 : Int) (a0_2 : Int) (a0_3 : Int) (a0_4 : ByteArray) (l0_5 : List (S72)) : Option (Int) := (selvageref10_Counts.f k l0_5).bind fun bt448 => ((selvageref10_rows.f k l0_5).bind fun t450 => (if t450 = true then (if a0_1 = bt448.1 then (if a0_3 = bt448.2 then ((selvageref10_start.f a0_0 bt448.1).bind fun t451 => (if t451 = true then ((selvageref10_start.f a0_2 bt448.2).bind fun t452 => (if t452 = true then (selvageref10_Valid.j0 k (decide ((a0_4.size : Int) ≤ 4096)) a0_0 a0_1 a0_2 a0_3 a0_4 l0_5) else (selvageref10_Valid.j0 k false a0_0 a0_1 a0_2 a0_3 a0_4 l0_5))) else (selvageref10_Valid.j0 k false a0_0 a0_1 a0_2 a0_3 a0_4 l0_5))) else (selvageref10_Valid.j0 k false a0_0 a0_1 a0_2 a0_3 a0_4 l0_5)) else (selvageref10_Valid.j0 k false a0_0 a0_1 a0_2 a0_3 a0_4 l0_5)) else (selvageref10_Valid.j0 k false a0_0 a0_1 a0_2 a0_3 a0_4 l0_5)))
theorem selvageref10_Valid.mono_l : ∀ k, (∀ y0 y1 y2 y3 y4 y5 y6, LeO (selvageref10_Valid.j0 k y0 y1 y2 y3 y4 y5 y6) (selvageref10_Valid.j0 (k + 1) y0 y1 y2 y3 y4 y5 y6)) ∧ (∀ y0 y1 y2 y3 y4 y5 y6 y7, LeO (selvageref10_Valid.l0 k y0 y1 y2 y3 y4 y5 y6 y7) (selvageref10_Valid.l0 (k + 1) y0 y1 y2 y3 y4 y5 y6 y7))
 | 0 => ⟨fun _ _ _ _ _ _ _ r h => by simp [selvageref10_Valid.j0] at h, fun _ _ _ _ _ _ _ _ r h => by simp [selvageref10_Valid.l0] at h⟩
 | k + 1 => by
  obtain ⟨ih0, ih1⟩ := selvageref10_Valid.mono_l k
  refine ⟨?_, ?_⟩
  ·intro y0 y1 y2 y3 y4 y5 y6
   unfold selvageref10_Valid.j0
   repeat' first
   | (with_reducible exact ih0 _ _ _ _ _ _ _)
   | (with_reducible exact ih1 _ _ _ _ _ _ _ _)
   | (with_reducible exact selvageref10_Counts.mono _ _)
   | (with_reducible exact selvageref10_rows.mono _ _)
   | (with_reducible exact LeO.refl _)
   | (with_reducible exact LeO.none _)
   | (with_reducible refine LeO.ite ?_ ?_)
   | (with_reducible refine LeO.bind ?_ (fun _ => ?_))
   | exact ih0 _ _ _ _ _ _ _
   | exact ih1 _ _ _ _ _ _ _ _
   | exact selvageref10_Counts.mono _ _
   | exact selvageref10_rows.mono _ _
   | exact LeO.none _
   | refine LeO.ite ?_ ?_
   | refine LeO.bind ?_ (fun _ => ?_)
  ·intro y0 y1 y2 y3 y4 y5 y6 y7
   unfold selvageref10_Valid.l0
   repeat' first
   | (with_reducible exact ih0 _ _ _ _ _ _ _)
   | (with_reducible exact ih1 _ _ _ _ _ _ _ _)
   | (with_reducible exact selvageref10_Counts.mono _ _)
   | (with_reducible exact selvageref10_rows.mono _ _)
   | (with_reducible exact LeO.refl _)
   | (with_reducible exact LeO.none _)
   | (with_reducible refine LeO.ite ?_ ?_)
   | (with_reducible refine LeO.bind ?_ (fun _ => ?_))
   | exact ih0 _ _ _ _ _ _ _
   | exact ih1 _ _ _ _ _ _ _ _
   | exact selvageref10_Counts.mono _ _
   | exact selvageref10_rows.mono _ _
   | exact LeO.none _
   | refine LeO.ite ?_ ?_
   | refine LeO.bind ?_ (fun _ => ?_)
theorem selvageref10_Valid.mono : ∀ a0 a1 a2 a3 a4 a5 k, LeO (selvageref10_Valid.f k a0 a1 a2 a3 a4 a5) (selvageref10_Valid.f (k + 1) a0 a1 a2 a3 a4 a5) := by
 intro a0 a1 a2 a3 a4 a5 k
 obtain ⟨ih0, ih1⟩ := selvageref10_Valid.mono_l k
 unfold selvageref10_Valid.f
 repeat' first
   | (with_reducible exact ih0 _ _ _ _ _ _ _)
   | (with_reducible exact ih1 _ _ _ _ _ _ _ _)
   | (with_reducible exact selvageref10_Counts.mono _ _)
   | (with_reducible exact selvageref10_rows.mono _ _)
   | (with_reducible exact LeO.refl _)
   | (with_reducible exact LeO.none _)
   | (with_reducible refine LeO.ite ?_ ?_)
   | (with_reducible refine LeO.bind ?_ (fun _ => ?_))
   | exact ih0 _ _ _ _ _ _ _
   | exact ih1 _ _ _ _ _ _ _ _
   | exact selvageref10_Counts.mono _ _
   | exact selvageref10_rows.mono _ _
   | exact LeO.none _
   | refine LeO.ite ?_ ?_
   | refine LeO.bind ?_ (fun _ => ?_)
set_option maxHeartbeats 8000000 in
set_option maxRecDepth 100000 in
theorem selvageref10_Valid.calls (k : Nat) (a0_0 : Int) (a0_1 : Int) (a0_2 : Int) (a0_3 : Int) (a0_4 : ByteArray) (A0_5 : Option Addr) (c0_5 : Nat) (l0_5 : List (S72)) (r : Int) (w : World) (hr0_5 : Kd.C k72 w A0_5 l0_5.length l0_5) (hc0_5 : l0_5.length ≤ c0_5) (h : selvageref10_Valid.f k a0_0 a0_1 a0_2 a0_3 a0_4 l0_5 = some r) :
  Calls Try.prog 56 #[.agg #[.int .i64 a0_0, .int .i64 a0_1, .int .i64 a0_2, .int .i64 a0_3, .string a0_4, .slice A0_5 l0_5.length c0_5]] w fun e w' => e = .returned (.int .i64 r) ∧ Below w.heap.size w w' := by
 have hu41 := Try.underlying41
 have HR0_5 := Aside0.mk hr0_5
 have HC0_5 := Aside0.mk hc0_5
 clear hr0_5 hc0_5
 have HB := Aside0.mk (Below.refl w.heap.size w)
 have H := h
 clear h
 unfold selvageref10_Valid.f at H
 replace H := bdS H
 obtain ⟨⟨t448, t449⟩, A2, H⟩ := H
 replace H : ((selvageref10_rows.f k l0_5).bind fun t450 => (if t450 = true then (if a0_1 = t448 then (if a0_3 = t449 then ((selvageref10_start.f a0_0 t448).bind fun t451 => (if t451 = true then ((selvageref10_start.f a0_2 t449).bind fun t452 => (if t452 = true then (selvageref10_Valid.j0 k (decide ((a0_4.size : Int) ≤ 4096)) a0_0 a0_1 a0_2 a0_3 a0_4 l0_5) else (selvageref10_Valid.j0 k false a0_0 a0_1 a0_2 a0_3 a0_4 l0_5))) else (selvageref10_Valid.j0 k false a0_0 a0_1 a0_2 a0_3 a0_4 l0_5))) else (selvageref10_Valid.j0 k false a0_0 a0_1 a0_2 a0_3 a0_4 l0_5)) else (selvageref10_Valid.j0 k false a0_0 a0_1 a0_2 a0_3 a0_4 l0_5)) else (selvageref10_Valid.j0 k false a0_0 a0_1 a0_2 a0_3 a0_4 l0_5))) = some r := H
 have HC3 := Aside0.mk H
 clear H
 go_enter Try.func56, Try.ntmps56
 go_upto_region 2 with (first | ((with_reducible refine gate_dst (N := 1) rfl ?_); (try (refine gate_guard (by rfl) ?_; dsimp only)); refine boxEv (N := 1) #[.int .i64 a0_0, .int .i64 a0_1, .int .i64 a0_2, .int .i64 a0_3, .string a0_4, .slice A0_5 l0_5.length c0_5] 41 ?_; intro gb447 hg w4 hbox hb; have BK447 := Aside0.mk hbox; have GW447 := gwN HB hg; have GE447 := GW447; replace HB := hbD HB hb; clear hb hbox hg; obtain ⟨hcz5_0, hcz5_1, hcz5_2, hcz5_3, hcz5_4, hcz5_5, hfz5_0, hfz5_1, hfz5_2, hfz5_3, hfz5_4, hfz5_5⟩ := bcf6 (W := w4) BK447) | ((with_reducible refine gate_callee (f := 39) rfl ?_); refine goL (some 10) Try.func39 #[.slice A0_5 l0_5.length c0_5] ?_; (with_reducible refine (selvageref10_Counts.calls k _ _ l0_5 t448 t449 _ ?side1 ?side2 A2.out).mono ?_); (case side1 => exact kcU HR0_5 HB); (case side2 => exact HC0_5.out); rintro e w6 ⟨rfl, hb⟩; refine ⟨_, rfl, ?_⟩; replace BK447 := bkD BK447 hb; replace HB := hbD HB hb; clear hb))
 (try simp only [Act.put, List.setIfInBounds_toArray, List.set_cons_zero, List.set_cons_succ])
 go_cut [5] (fun v5 wc => ∃ (kq : Nat) (x5_2 : Bool), v5 = .bool x5_2 ∧ Aside0 (selvageref10_Valid.j0 kq x5_2 a0_0 a0_1 a0_2 a0_3 a0_4 l0_5 = some r) ∧ Aside0 (kq ≤ k) ∧ Aside0 (wc.heap[gb447]? = some (.cells #[.int .i64 a0_0, .int .i64 a0_1, .int .i64 a0_2, .int .i64 a0_3, .string a0_4, (.slice A0_5 l0_5.length c0_5)] 41 (0, 0))) ∧ Aside0 (Below w.heap.size w wc))
 case first =>
  have H := HC3.out
  clear HC3
  replace H := bdS H
  obtain ⟨t450, A7, H⟩ := H
  replace H := itBn H
  rcases H with ⟨rfl, H⟩ | ⟨rfl, H⟩
  ·have H' := Aside0.mk H
   clear H
   have hcz30_0 := bkc (v := .int .i64 a0_0) BK447.out 0 rfl
   have hcz30_1 := bkc (v := .int .i64 a0_1) BK447.out 1 rfl
   have hcz30_2 := bkc (v := .int .i64 a0_2) BK447.out 2 rfl
   have hcz30_3 := bkc (v := .int .i64 a0_3) BK447.out 3 rfl
   have hcz30_4 := bkc (v := .string a0_4) BK447.out 4 rfl
   have hcz30_5 := bkc (v := .slice A0_5 l0_5.length c0_5) BK447.out 5 rfl
   have hfz30_0 := blk_frozen BK447.out 0
   have hfz30_1 := blk_frozen BK447.out 1
   have hfz30_2 := blk_frozen BK447.out 2
   have hfz30_3 := blk_frozen BK447.out 3
   have hfz30_4 := blk_frozen BK447.out 4
   have hfz30_5 := blk_frozen BK447.out 5
   go_wp2_with (first | ((with_reducible refine gate_callee (f := 68) rfl ?_); refine goL (some 15) Try.func68 #[.slice A0_5 l0_5.length c0_5] ?_; (with_reducible refine (selvageref10_rows.calls k _ _ l0_5 false _ ?side1 ?side2 A7.out).mono ?_); (case side1 => exact kcU HR0_5 HB); (case side2 => exact HC0_5.out); rintro e w31 ⟨rfl, hb⟩; refine ⟨_, rfl, ?_⟩; replace BK447 := bkD BK447 hb; replace HB := hbD HB hb; clear hb))
   go_meet
   case rel => exact ⟨_, (false), eqNow, H', ⟨by first | omega | exact Nat.le_refl _⟩, ⟨bkUp BK447.out⟩, ⟨belPut⟩⟩
  replace H := itEn H
  rcases H with ⟨c9, c9b0, c9b1, H⟩ | ⟨-, c9b0, c9b1, H⟩
  ·(first | rw [c9b0] | (simp only [i64_w, i32_w]; rw [c9b0]) | skip)
   have H' := Aside0.mk H
   clear H
   have hcz27_0 := bkc (v := .int .i64 a0_0) BK447.out 0 rfl
   have hcz27_1 := bkc (v := .int .i64 a0_1) BK447.out 1 rfl
   have hcz27_2 := bkc (v := .int .i64 a0_2) BK447.out 2 rfl
   have hcz27_3 := bkc (v := .int .i64 a0_3) BK447.out 3 rfl
   have hcz27_4 := bkc (v := .string a0_4) BK447.out 4 rfl
   have hcz27_5 := bkc (v := .slice A0_5 l0_5.length c0_5) BK447.out 5 rfl
   have hfz27_0 := blk_frozen BK447.out 0
   have hfz27_1 := blk_frozen BK447.out 1
   have hfz27_2 := blk_frozen BK447.out 2
   have hfz27_3 := blk_frozen BK447.out 3
   have hfz27_4 := blk_frozen BK447.out 4
   have hfz27_5 := blk_frozen BK447.out 5
   go_wp2_with (first | ((with_reducible refine gate_callee (f := 68) rfl ?_); refine goL (some 15) Try.func68 #[.slice A0_5 l0_5.length c0_5] ?_; (with_reducible refine (selvageref10_rows.calls k _ _ l0_5 true _ ?side1 ?side2 A7.out).mono ?_); (case side1 => exact kcU HR0_5 HB); (case side2 => exact HC0_5.out); rintro e w28 ⟨rfl, hb⟩; refine ⟨_, rfl, ?_⟩; replace BK447 := bkD BK447 hb; replace HB := hbD HB hb; clear hb; obtain ⟨hcz29_0, hcz29_1, hcz29_2, hcz29_3, hcz29_4, hcz29_5, hfz29_0, hfz29_1, hfz29_2, hfz29_3, hfz29_4, hfz29_5⟩ := bcf6 (W := w28) BK447))
   go_meet
   case rel => exact ⟨_, (false), eqNow, H', ⟨by first | omega | exact Nat.le_refl _⟩, ⟨bkUp BK447.out⟩, ⟨belPut⟩⟩
  (first | rw [c9b0] | (simp only [i64_w, i32_w]; rw [c9b0]) | skip)
  replace H := itEn H
  rcases H with ⟨c10, c10b0, c10b1, H⟩ | ⟨-, c10b0, c10b1, H⟩
  ·have H' := Aside0.mk H
   clear H
   have hcz24_0 := bkc (v := .int .i64 a0_0) BK447.out 0 rfl
   have hcz24_1 := bkc (v := .int .i64 a0_1) BK447.out 1 rfl
   have hcz24_2 := bkc (v := .int .i64 a0_2) BK447.out 2 rfl
   have hcz24_3 := bkc (v := .int .i64 a0_3) BK447.out 3 rfl
   have hcz24_4 := bkc (v := .string a0_4) BK447.out 4 rfl
   have hcz24_5 := bkc (v := .slice A0_5 l0_5.length c0_5) BK447.out 5 rfl
   have hfz24_0 := blk_frozen BK447.out 0
   have hfz24_1 := blk_frozen BK447.out 1
   have hfz24_2 := blk_frozen BK447.out 2
   have hfz24_3 := blk_frozen BK447.out 3
   have hfz24_4 := blk_frozen BK447.out 4
   have hfz24_5 := blk_frozen BK447.out 5
   go_wp2_with (first | ((with_reducible refine gate_callee (f := 68) rfl ?_); refine goL (some 15) Try.func68 #[.slice A0_5 l0_5.length c0_5] ?_; (with_reducible refine (selvageref10_rows.calls k _ _ l0_5 true _ ?side1 ?side2 A7.out).mono ?_); (case side1 => exact kcU HR0_5 HB); (case side2 => exact HC0_5.out); rintro e w25 ⟨rfl, hb⟩; refine ⟨_, rfl, ?_⟩; replace BK447 := bkD BK447 hb; replace HB := hbD HB hb; clear hb; obtain ⟨hcz26_0, hcz26_1, hcz26_2, hcz26_3, hcz26_4, hcz26_5, hfz26_0, hfz26_1, hfz26_2, hfz26_3, hfz26_4, hfz26_5⟩ := bcf6 (W := w25) BK447))
   go_meet
   case rel => exact ⟨_, (false), eqNow, H', ⟨by first | omega | exact Nat.le_refl _⟩, ⟨bkUp BK447.out⟩, ⟨belPut⟩⟩
  replace H := bdS H
  obtain ⟨t451, A11, H⟩ := H
  replace H := itBn H
  rcases H with ⟨rfl, H⟩ | ⟨rfl, H⟩
  ·have H' := Aside0.mk H
   clear H
   have hcz21_0 := bkc (v := .int .i64 a0_0) BK447.out 0 rfl
   have hcz21_1 := bkc (v := .int .i64 a0_1) BK447.out 1 rfl
   have hcz21_2 := bkc (v := .int .i64 a0_2) BK447.out 2 rfl
   have hcz21_3 := bkc (v := .int .i64 a0_3) BK447.out 3 rfl
   have hcz21_4 := bkc (v := .string a0_4) BK447.out 4 rfl
   have hcz21_5 := bkc (v := .slice A0_5 l0_5.length c0_5) BK447.out 5 rfl
   have hfz21_0 := blk_frozen BK447.out 0
   have hfz21_1 := blk_frozen BK447.out 1
   have hfz21_2 := blk_frozen BK447.out 2
   have hfz21_3 := blk_frozen BK447.out 3
   have hfz21_4 := blk_frozen BK447.out 4
   have hfz21_5 := blk_frozen BK447.out 5
   go_wp2_with (first | ((with_reducible refine gate_callee (f := 68) rfl ?_); refine goL (some 15) Try.func68 #[.slice A0_5 l0_5.length c0_5] ?_; (with_reducible refine (selvageref10_rows.calls k _ _ l0_5 true _ ?side1 ?side2 A7.out).mono ?_); (case side1 => exact kcU HR0_5 HB); (case side2 => exact HC0_5.out); rintro e w22 ⟨rfl, hb⟩; refine ⟨_, rfl, ?_⟩; replace BK447 := bkD BK447 hb; replace HB := hbD HB hb; clear hb; obtain ⟨hcz23_0, hcz23_1, hcz23_2, hcz23_3, hcz23_4, hcz23_5, hfz23_0, hfz23_1, hfz23_2, hfz23_3, hfz23_4, hfz23_5⟩ := bcf6 (W := w22) BK447) | (go_at_call 69; (with_reducible refine (selvageref10_start.calls a0_0 t448 false _ A11.out).mono ?_); rintro e w' ⟨rfl, ⟨nd, rfl⟩⟩))
   go_meet
   case rel => exact ⟨_, (false), eqNow, H', ⟨by first | omega | exact Nat.le_refl _⟩, ⟨bkUp BK447.out⟩, ⟨belPut⟩⟩
  replace H := bdS H
  obtain ⟨t452, A13, H⟩ := H
  replace H := itB H
  rcases H with ⟨rfl, H⟩ | ⟨rfl, H⟩
  ·have H' := Aside0.mk H
   clear H
   have hcz15_0 := bkc (v := .int .i64 a0_0) BK447.out 0 rfl
   have hcz15_1 := bkc (v := .int .i64 a0_1) BK447.out 1 rfl
   have hcz15_2 := bkc (v := .int .i64 a0_2) BK447.out 2 rfl
   have hcz15_3 := bkc (v := .int .i64 a0_3) BK447.out 3 rfl
   have hcz15_4 := bkc (v := .string a0_4) BK447.out 4 rfl
   have hcz15_5 := bkc (v := .slice A0_5 l0_5.length c0_5) BK447.out 5 rfl
   have hfz15_0 := blk_frozen BK447.out 0
   have hfz15_1 := blk_frozen BK447.out 1
   have hfz15_2 := blk_frozen BK447.out 2
   have hfz15_3 := blk_frozen BK447.out 3
   have hfz15_4 := blk_frozen BK447.out 4
   have hfz15_5 := blk_frozen BK447.out 5
   go_wp2_with (first | ((with_reducible refine gate_callee (f := 68) rfl ?_); refine goL (some 15) Try.func68 #[.slice A0_5 l0_5.length c0_5] ?_; (with_reducible refine (selvageref10_rows.calls k _ _ l0_5 true _ ?side1 ?side2 A7.out).mono ?_); (case side1 => exact kcU HR0_5 HB); (case side2 => exact HC0_5.out); rintro e w16 ⟨rfl, hb⟩; refine ⟨_, rfl, ?_⟩; replace BK447 := bkD BK447 hb; replace HB := hbD HB hb; clear hb; obtain ⟨hcz17_0, hcz17_1, hcz17_2, hcz17_3, hcz17_4, hcz17_5, hfz17_0, hfz17_1, hfz17_2, hfz17_3, hfz17_4, hfz17_5⟩ := bcf6 (W := w16) BK447) | (go_at_call 69; (with_reducible refine (selvageref10_start.calls a0_0 t448 true _ A11.out).mono ?_); rintro e w' ⟨rfl, ⟨nd, rfl⟩⟩) | (go_at_call 69; (with_reducible refine (selvageref10_start.calls a0_2 t449 true _ A13.out).mono ?_); rintro e w' ⟨rfl, ⟨nd, rfl⟩⟩))
   go_meet
   case rel => exact ⟨_, (decide ((a0_4.size : Int) ≤ 4096)), eqNow, H', ⟨by first | omega | exact Nat.le_refl _⟩, ⟨bkUp BK447.out⟩, ⟨belPut⟩⟩
  have H' := Aside0.mk H
  clear H
  have hcz18_0 := bkc (v := .int .i64 a0_0) BK447.out 0 rfl
  have hcz18_1 := bkc (v := .int .i64 a0_1) BK447.out 1 rfl
  have hcz18_2 := bkc (v := .int .i64 a0_2) BK447.out 2 rfl
  have hcz18_3 := bkc (v := .int .i64 a0_3) BK447.out 3 rfl
  have hcz18_4 := bkc (v := .string a0_4) BK447.out 4 rfl
  have hcz18_5 := bkc (v := .slice A0_5 l0_5.length c0_5) BK447.out 5 rfl
  have hfz18_0 := blk_frozen BK447.out 0
  have hfz18_1 := blk_frozen BK447.out 1
  have hfz18_2 := blk_frozen BK447.out 2
  have hfz18_3 := blk_frozen BK447.out 3
  have hfz18_4 := blk_frozen BK447.out 4
  have hfz18_5 := blk_frozen BK447.out 5
  go_wp2_with (first | ((with_reducible refine gate_callee (f := 68) rfl ?_); refine goL (some 15) Try.func68 #[.slice A0_5 l0_5.length c0_5] ?_; (with_reducible refine (selvageref10_rows.calls k _ _ l0_5 true _ ?side1 ?side2 A7.out).mono ?_); (case side1 => exact kcU HR0_5 HB); (case side2 => exact HC0_5.out); rintro e w19 ⟨rfl, hb⟩; refine ⟨_, rfl, ?_⟩; replace BK447 := bkD BK447 hb; replace HB := hbD HB hb; clear hb; obtain ⟨hcz20_0, hcz20_1, hcz20_2, hcz20_3, hcz20_4, hcz20_5, hfz20_0, hfz20_1, hfz20_2, hfz20_3, hfz20_4, hfz20_5⟩ := bcf6 (W := w19) BK447) | (go_at_call 69; (with_reducible refine (selvageref10_start.calls a0_0 t448 true _ A11.out).mono ?_); rintro e w' ⟨rfl, ⟨nd, rfl⟩⟩) | (go_at_call 69; (with_reducible refine (selvageref10_start.calls a0_2 t449 false _ A13.out).mono ?_); rintro e w' ⟨rfl, ⟨nd, rfl⟩⟩))
  go_meet
  case rel => exact ⟨_, (false), eqNow, H', ⟨by first | omega | exact Nat.le_refl _⟩, ⟨bkUp BK447.out⟩, ⟨belPut⟩⟩
 case rest =>
  clear HC3
  try clear hcz5_0 hcz5_1 hcz5_2 hcz5_3 hcz5_4 hcz5_5
  try clear hfz5_0 hfz5_1 hfz5_2 hfz5_3 hfz5_4 hfz5_5
  obtain ⟨kq, x5_2, rfl, HA, HJ2, BK447, HB⟩ := hcut
  cases kq with
  | zero => exact absurd HA.out (by simp [selvageref10_Valid.j0])
  | succ kj2 =>
   have H := HA.out
   clear HA
   simp only [selvageref10_Valid.j0] at H
   have H' := Aside0.mk H
   clear H
   go_wp2
   go_loopg [5, 6] kj2 (fun kq v5 v6 w' => ∃ (x5_2 : Bool) (x6_2 : Int), v5 = .bool x5_2 ∧ v6 = .int .i64 x6_2 ∧ Aside0 (selvageref10_Valid.l0 kq x5_2 x6_2 a0_0 a0_1 a0_2 a0_3 a0_4 l0_5 = some r) ∧ Aside0 (kq ≤ kj2) ∧ Aside0 (w'.heap[gb447]? = some (.cells #[.int .i64 a0_0, .int .i64 a0_1, .int .i64 a0_2, .int .i64 a0_3, .string a0_4, (.slice A0_5 l0_5.length c0_5)] 41 (0, 0))) ∧ Aside0 (Below w.heap.size w w'))
   case atStart => exact ⟨(x5_2), (0), eqNow, eqNow, H', ⟨Nat.le_refl _⟩, ⟨bkUp BK447.out⟩, ⟨belPut⟩⟩
   case round =>
    clear H'
    try clear hcz5_0 hcz5_1 hcz5_2 hcz5_3 hcz5_4 hcz5_5
    try clear hfz5_0 hfz5_1 hfz5_2 hfz5_3 hfz5_4 hfz5_5
    obtain ⟨x5_2, x6_2, rfl, rfl, HA, HK2, BK447, HB⟩ := hrel
    cases gk with
    | zero => exact absurd HA.out (by simp [selvageref10_Valid.l0])
    | succ k2 =>
     have H := HA.out
     clear HA
     simp only [selvageref10_Valid.l0] at H
     replace H := itLn H
     rcases H with ⟨-, c32b0, H⟩ | ⟨-, c32b0, H⟩
     ·replace H := itB H
      rcases H with ⟨rfl, H⟩ | ⟨rfl, H⟩
      ·obtain rfl := Option.some.inj H
       have hcz39_0 := bkc (v := .int .i64 a0_0) BK447.out 0 rfl
       have hcz39_1 := bkc (v := .int .i64 a0_1) BK447.out 1 rfl
       have hcz39_2 := bkc (v := .int .i64 a0_2) BK447.out 2 rfl
       have hcz39_3 := bkc (v := .int .i64 a0_3) BK447.out 3 rfl
       have hcz39_4 := bkc (v := .string a0_4) BK447.out 4 rfl
       have hcz39_5 := bkc (v := .slice A0_5 l0_5.length c0_5) BK447.out 5 rfl
       have hfz39_0 := blk_frozen BK447.out 0
       have hfz39_1 := blk_frozen BK447.out 1
       have hfz39_2 := blk_frozen BK447.out 2
       have hfz39_3 := blk_frozen BK447.out 3
       have hfz39_4 := blk_frozen BK447.out 4
       have hfz39_5 := blk_frozen BK447.out 5
       go_wp2
       go_ret
       exact ⟨eqEnd, belPut⟩
      obtain rfl := Option.some.inj H
      have hcz40_0 := bkc (v := .int .i64 a0_0) BK447.out 0 rfl
      have hcz40_1 := bkc (v := .int .i64 a0_1) BK447.out 1 rfl
      have hcz40_2 := bkc (v := .int .i64 a0_2) BK447.out 2 rfl
      have hcz40_3 := bkc (v := .int .i64 a0_3) BK447.out 3 rfl
      have hcz40_4 := bkc (v := .string a0_4) BK447.out 4 rfl
      have hcz40_5 := bkc (v := .slice A0_5 l0_5.length c0_5) BK447.out 5 rfl
      have hfz40_0 := blk_frozen BK447.out 0
      have hfz40_1 := blk_frozen BK447.out 1
      have hfz40_2 := blk_frozen BK447.out 2
      have hfz40_3 := blk_frozen BK447.out 3
      have hfz40_4 := blk_frozen BK447.out 4
      have hfz40_5 := blk_frozen BK447.out 5
      go_wp2
      go_ret
      exact ⟨eqEnd, belPut⟩
     replace H := itBn H
     rcases H with ⟨rfl, H⟩ | ⟨rfl, H⟩
     ·have H' := Aside0.mk H
      clear H
      have hcz37_0 := bkc (v := .int .i64 a0_0) BK447.out 0 rfl
      have hcz37_1 := bkc (v := .int .i64 a0_1) BK447.out 1 rfl
      have hcz37_2 := bkc (v := .int .i64 a0_2) BK447.out 2 rfl
      have hcz37_3 := bkc (v := .int .i64 a0_3) BK447.out 3 rfl
      have hcz37_4 := bkc (v := .string a0_4) BK447.out 4 rfl
      have hcz37_5 := bkc (v := .slice A0_5 l0_5.length c0_5) BK447.out 5 rfl
      have hfz37_0 := blk_frozen BK447.out 0
      have hfz37_1 := blk_frozen BK447.out 1
      have hfz37_2 := blk_frozen BK447.out 2
      have hfz37_3 := blk_frozen BK447.out 3
      have hfz37_4 := blk_frozen BK447.out 4
      have hfz37_5 := blk_frozen BK447.out 5
      go_wp2
      go_roundg k2
      case measure => have := HJ2.out; have := HK2.out; omega
      case rel => exact ⟨(false), (wrap64 (x6_2 + 1)), eqNow, eqNow, H', ⟨by have := HJ2.out; have := HK2.out; omega⟩, ⟨bkUp BK447.out⟩, ⟨belPut⟩⟩
     replace H := itLn H
     rcases H with ⟨_, _, H⟩ | ⟨-, c34b0, H⟩
     ·cases H
     have H' := Aside0.mk H
     clear H
     have hcz36_0 := bkc (v := .int .i64 a0_0) BK447.out 0 rfl
     have hcz36_1 := bkc (v := .int .i64 a0_1) BK447.out 1 rfl
     have hcz36_2 := bkc (v := .int .i64 a0_2) BK447.out 2 rfl
     have hcz36_3 := bkc (v := .int .i64 a0_3) BK447.out 3 rfl
     have hcz36_4 := bkc (v := .string a0_4) BK447.out 4 rfl
     have hcz36_5 := bkc (v := .slice A0_5 l0_5.length c0_5) BK447.out 5 rfl
     have hfz36_0 := blk_frozen BK447.out 0
     have hfz36_1 := blk_frozen BK447.out 1
     have hfz36_2 := blk_frozen BK447.out 2
     have hfz36_3 := blk_frozen BK447.out 3
     have hfz36_4 := blk_frozen BK447.out 4
     have hfz36_5 := blk_frozen BK447.out 5
     have p35 : 0 ≤ (x6_2 : Int) := ofDec
     have q35 : x6_2 < (a0_4.size : Int) := ofDec
     have hx35 := bt_at a0_4 x6_2
     replace p35 := eq_true p35
     replace q35 := eq_true q35
     go_wp2
     go_roundg k2
     case measure => have := HJ2.out; have := HK2.out; omega
     case rel => exact ⟨(((bt a0_4 x6_2) != 10)), (wrap64 (x6_2 + 1)), eqNow, eqNow, H', ⟨by have := HJ2.out; have := HK2.out; omega⟩, ⟨bkUp BK447.out⟩, ⟨belPut⟩⟩
def selvageref17_side.l0 : Nat → List (S72) → Int → List ByteArray → Int → Option (List ByteArray)
 | 0, _, _, _, _ => none
 | k + 1, x0, x1, x5, x6 => if x6 < (x0.length : Int) then (if 0 ≤ x6 then (if ((rd_T72 x0 x6).f0) = x1 then (selvageref17_side.l0 k x0 x1 x5 (wrap64 (x6 + 1))) else (if x5.length < 8796093022208 then (selvageref17_side.l0 k x0 x1 (x5 ++ [(rd_T72 x0 x6).f1]) (wrap64 (x6 + 1))) else (none))) else (none)) else (some x5)
def selvageref17_side.f (k : Nat) (l0 : List (S72)) (a1 : Int) : Option (List ByteArray) := selvageref17_side.l0 k l0 a1 ([] : List ByteArray) 0
theorem selvageref17_side.mono_l : ∀ k, (∀ y0 y1 y2 y3, LeO (selvageref17_side.l0 k y0 y1 y2 y3) (selvageref17_side.l0 (k + 1) y0 y1 y2 y3))
 | 0 => fun _ _ _ _ r h => by simp [selvageref17_side.l0] at h
 | k + 1 => by
  have ih0 := selvageref17_side.mono_l k
  ·intro y0 y1 y2 y3
   unfold selvageref17_side.l0
   repeat' first
   | (with_reducible exact ih0 _ _ _ _)
   | (with_reducible exact LeO.refl _)
   | (with_reducible exact LeO.none _)
   | (with_reducible refine LeO.ite ?_ ?_)
   | (with_reducible refine LeO.bind ?_ (fun _ => ?_))
   | exact ih0 _ _ _ _
   | exact LeO.none _
   | refine LeO.ite ?_ ?_
   | refine LeO.bind ?_ (fun _ => ?_)
theorem selvageref17_side.mono : ∀ a0 a1 k, LeO (selvageref17_side.f k a0 a1) (selvageref17_side.f (k + 1) a0 a1) := by
 intro a0 a1 k
 have ih0 := selvageref17_side.mono_l k
 unfold selvageref17_side.f
 repeat' first
   | (with_reducible exact ih0 _ _ _ _)
   | (with_reducible exact LeO.refl _)
   | (with_reducible exact LeO.none _)
   | (with_reducible refine LeO.ite ?_ ?_)
   | (with_reducible refine LeO.bind ?_ (fun _ => ?_))
   | exact ih0 _ _ _ _
   | exact LeO.none _
   | refine LeO.ite ?_ ?_
   | refine LeO.bind ?_ (fun _ => ?_)
set_option maxHeartbeats 8000000 in
set_option maxRecDepth 100000 in
theorem selvageref17_side.calls (k : Nat) (A0 : Option Addr) (c0 : Nat) (l0 : List (S72)) (a1 : Int) (r : List ByteArray) (w : World) (hr0 : Kd.C k72 w A0 l0.length l0) (hc0 : l0.length ≤ c0) (h : selvageref17_side.f k l0 a1 = some r) :
  Calls Try.prog 59 #[.slice A0 l0.length c0, .int .i64 a1] w fun e w' => ∃ v0_ : Value, e = .returned (v0_) ∧ Kd.R Kd.string 9 w' w.heap.size (fun _ => True) v0_ r ∧ Below w.heap.size w w' := by
 have HR0 := Aside0.mk hr0
 have HC0 := Aside0.mk hc0
 clear hr0 hc0
 have HB := Aside0.mk (Below.refl w.heap.size w)
 have H := h
 clear h
 unfold selvageref17_side.f at H
 have H' := Aside0.mk H
 clear H
 go_enter Try.func59, Try.ntmps59
 go_wp2
 go_loopg [5, 6] k (fun kq v5 v6 w' => ∃ (x5_1 : List ByteArray) (x6_1 : Int), v6 = .int .i64 x6_1 ∧ Aside0 (selvageref17_side.l0 kq l0 a1 x5_1 x6_1 = some r) ∧ Aside0 (kq ≤ k) ∧ Aside0 (Kd.R Kd.string 9 w' w.heap.size (fun _ => True) v5 x5_1) ∧ Aside0 (Below w.heap.size w w'))
 case atStart => exact ⟨(([] : List ByteArray)), (0), eqNow, H', ⟨Nat.le_refl _⟩, ⟨by first | exact Kd.R_nil _ _ _ _ _ | exact Kd.N_nil _ _ _ _ _ | exact Kd.V_nil _ _ _ _ _ | exact Kd.Q_nil _ _ _ _ _ | exact Kd.S_nil _ _ _ _ _⟩, ⟨belNow⟩⟩
 case round =>
  clear H'
  obtain ⟨x5_1, x6_1, rfl, HA, HK1, HO_5, HB⟩ := hrel
  cases gk with
  | zero => exact absurd HA.out (by simp [selvageref17_side.l0])
  | succ k1 =>
   have H := HA.out
   clear HA
   simp only [selvageref17_side.l0] at H
   replace H := itLn H
   rcases H with ⟨-, c3b0, H⟩ | ⟨-, c3b0, H⟩
   ·obtain rfl := Option.some.inj H
    go_wp2
    go_ret
    exact ⟨_, eqEnd, by (with_reducible repeat (first | apply Kd.R_alloc | apply Kd.R_drewN | apply Kd.R_drew)); exact HO_5.out, belNow⟩
   replace H := itLn H
   rcases H with ⟨_, _, H⟩ | ⟨-, c4b0, H⟩
   ·cases H
   replace H := itE H
   rcases H with ⟨-, c5b0, c5b1, H⟩ | ⟨c5, c5b0, c5b1, H⟩
   ·have H' := Aside0.mk H
    clear H
    obtain ⟨ad453, rfl, hx453_0, hx453_1, p453, q453⟩ := atU_T72 HR0 HB x6_1
    go_wp2
    go_roundg k1
    case measure => have := HK1.out; omega
    case rel => exact ⟨(x5_1), (wrap64 (x6_1 + 1)), eqNow, H', ⟨by have := HK1.out; omega⟩, ⟨kdMv HO_5⟩, ⟨belNow⟩⟩
   replace H := itLn H
   rcases H with ⟨_, _, H⟩ | ⟨c6, -, H⟩
   ·cases H
   have LMc6 := Aside0.mk c6
   clear c6
   obtain ⟨y455, hy455⟩ : ∃ y_ : List ByteArray, y_ = (x5_1 ++ [(rd_T72 l0 x6_1).f1]) := ⟨_, rfl⟩
   replace H : (selvageref17_side.l0 k1 l0 a1 y455 (wrap64 (x6_1 + 1))) = some r := by first | (rw [hy455]; with_reducible exact H) | (have H2_ := (Option.bind_some _ _).symm.trans H; rw [hy455]; with_reducible exact H2_) | (have H2_ := (Option.bind_some _ _).symm.trans H; with_reducible exact H2_) | with_reducible exact H | (rw [hy455]; exact H) | exact H
   have Ny455 := Aside0.mk hy455
   clear hy455
   have H' := Aside0.mk H
   clear H
   obtain ⟨ad453, rfl, hx453_0, hx453_1, p453, q453⟩ := atU_T72 HR0 HB x6_1
   have p454 : 0 ≤ (x6_1 : Int) := ofDec
   have q454 : x6_1 < (l0.length : Int) := ofDec
   obtain ⟨ad454, e454, hx454_0, hx454_1⟩ := at_T72 HR0.out x6_1 p454 q454
   obtain rfl : ad453 = ad454 := (by injection e454)
   replace hx454_0 := cUp HB.out hx454_0
   replace hx454_1 := cUp HB.out hx454_1
   replace p454 := eq_true p454
   replace q454 := eq_true q454
   go_wp2_with (first | ((with_reducible refine gate_builtin (b := .append) (xs := #[.tmp 20, .tmp 26]) rfl ?_); at_builtin; refine Kd.R_append Kd.string (w0 := w) w.heap.size rfl (.tmp 20) (.tmp 26) 23 9 (.string ⟨#[]⟩) 16 rfl Try.underlying23 info9 rfl (by decide) (by omega) u5 x5_1 ((rd_T72 l0 x6_1).f1) [.string ((rd_T72 l0 x6_1).f1)] (fun _ => True) (fun _ => False) rfl rfl ?aP (fun _ hk => hk.elim) ?aF ?aO ?aB ?aS ?aL ?_; (case aP => exact rfl); (case aB => exact belNow); (case aF => exact (fun _ _ => trivial)); (case aO => exact (kdUp HO_5.out)); (case aS => exact (below_size belNow)); (case aL => have := LMc6.out; omega); intro v456 w7 ho hb hg hat; rw [← Ny455.out] at ho; replace HB := Aside0.mk hb; have HO457 := Aside0.mk (ho); clear HO_5; clear ho hb hg hat))
   go_roundg k1
   case measure => have := HK1.out; omega
   case rel => exact ⟨(y455), (wrap64 (x6_1 + 1)), eqNow, H', ⟨by have := HK1.out; omega⟩, ⟨kdMv HO457⟩, ⟨belNow⟩⟩
end Go.Proofs.Ytkoagpnoaibdjaa.Pp
