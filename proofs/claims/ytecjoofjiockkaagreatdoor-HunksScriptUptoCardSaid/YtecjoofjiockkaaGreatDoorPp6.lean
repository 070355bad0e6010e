import Derived.Test.YtecjoofjiockkaaGreatDoorESt
import Derived.Test.YtecjoofjiockkaaGreatDoorPp0
import Derived.Test.YtecjoofjiockkaaGreatDoorPp4
import Derived.Test.YtecjoofjiockkaaGreatDoorPp5
set_option linter.unusedVariables false
set_option linter.unusedSimpArgs false
namespace Go.Proofs.YtecjoofjiockkaaGreatDoor.Pp
open Go.RowKit Go.Proofs.YtecjoofjiockkaaGreatDoor.Ext Go.Proofs.YtecjoofjiockkaaGreatDoorW.PrintWords Go.Proofs.YtecjoofjiockkaaGreatDoorW.PrintLast Go.Proofs.YtecjoofjiockkaaGreatDoorW.PrintMore
attribute [local go_sem] max2_int min2_int max_two min_two max_three min_three max_four min_four
def selvageref10_start.f (a0 : Int) (a1 : Int) : Option (Bool) := if a1 = 0 then (if a0 ≥ 0 then (some (decide (a0 ≤ (wrap64 (2147483647 - a1))))) else (some false)) else (if a0 ≥ 1 then (some (decide (a0 ≤ (wrap64 (2147483647 - a1))))) else (some false))
set_option maxHeartbeats 8000000 in
set_option maxRecDepth 100000 in
theorem selvageref10_start.calls (a0 : Int) (a1 : Int) (r : Bool) (w : World) (h : selvageref10_start.f a0 a1 = some r) :
  Calls Tryz.prog 45 #[.int .i64 a0, .int .i64 a1] w fun e w' => e = .returned (.bool r) ∧ Drawn0 w w' := by
 have H := h
 clear h
 unfold selvageref10_start.f at H
 replace H := itEn H
 rcases H with ⟨c3, c3b0, c3b1, H⟩ | ⟨-, c3b0, c3b1, H⟩
 ·replace H := itH H
  rcases H with ⟨-, c5b0, H⟩ | ⟨-, c5b0, H⟩
  ·obtain rfl := Option.some.inj H
   go_enter Tryz.func45, Tryz.ntmps45
   go_wp2
   go_ret
   exact ⟨eqFin, drawnNow⟩
  obtain rfl := Option.some.inj H
  go_enter Tryz.func45, Tryz.ntmps45
  go_wp2
  go_ret
  exact ⟨eqFin, drawnNow⟩
 replace H := itH H
 rcases H with ⟨-, c4b0, H⟩ | ⟨-, c4b0, H⟩
 ·obtain rfl := Option.some.inj H
  go_enter Tryz.func45, Tryz.ntmps45
  go_wp2
  go_ret
  exact ⟨eqFin, drawnNow⟩
 obtain rfl := Option.some.inj H
 go_enter Tryz.func45, Tryz.ntmps45
 go_wp2
 go_ret
 exact ⟨eqFin, drawnNow⟩
mutual
def selvageref10_Valid.j0 : Nat → Bool → Int → Int → Int → Int → ByteArray → List (S53) → Option (Int)
 | 0, _, _, _, _, _, _, _ => none
 | k + 1, x5, x145000, x145001, x145002, x145003, x145004, x145005 => selvageref10_Valid.l0 k x5 0 x145000 x145001 x145002 x145003 x145004 x145005
def selvageref10_Valid.l0 : Nat → Bool → Int → Int → Int → Int → Int → ByteArray → List (S53) → Option (Int)
 | 0, _, _, _, _, _, _, _, _ => none
 | k + 1, x5, x6, x145000, x145001, x145002, x145003, x145004, x145005 => if x6 < (x145004.size : Int) then (if x5 = true then (if 0 ≤ x6 then (selvageref10_Valid.l0 k ((bt x145004 x6) != 10) (wrap64 (x6 + 1)) x145000 x145001 x145002 x145003 x145004 x145005) else (none)) else (selvageref10_Valid.l0 k false (wrap64 (x6 + 1)) x145000 x145001 x145002 x145003 x145004 x145005)) else (if x5 = true then (some 0) else (some 100))
end
def selvageref10_Valid.f (k : Nat) (a0_0 : Int) (a0_1 : Int) (a0_2 : Int) (a0_3 : Int) (a0_4 : ByteArray) (l0_5 : List (S53)) : Option (Int) := (selvageref10_Counts.f k l0_5).bind fun bt145 => ((selvageref10_rows.f k l0_5).bind fun t147 => (if t147 = true then (if a0_1 = bt145.1 then (if a0_3 = bt145.2 then ((selvageref10_start.f a0_0 bt145.1).bind fun t148 => (if t148 = true then ((selvageref10_start.f a0_2 bt145.2).bind fun t149 => (if t149 = true then (selvageref10_Valid.j0 k (decide ((a0_4.size : Int) ≤ 4096)) a0_0 a0_1 a0_2 a0_3 a0_4 l0_5) else (selvageref10_Valid.j0 k false a0_0 a0_1 a0_2 a0_3 a0_4 l0_5))) else (selvageref10_Valid.j0 k false a0_0 a0_1 a0_2 a0_3 a0_4 l0_5))) else (selvageref10_Valid.j0 k false a0_0 a0_1 a0_2 a0_3 a0_4 l0_5)) else (selvageref10_Valid.j0 k false a0_0 a0_1 a0_2 a0_3 a0_4 l0_5)) else (selvageref10_Valid.j0 k false a0_0 a0_1 a0_2 a0_3 a0_4 l0_5)))
theorem selvageref10_Valid.mono_l : ∀ k, (∀ y0 y1 y2 y3 y4 y5 y6, LeO (selvageref10_Valid.j0 k y0 y1 y2 y3 y4 y5 y6) (selvageref10_Valid.j0 (k + 1) y0 y1 y2 y3 y4 y5 y6)) ∧ (∀ y0 y1 y2 y3 y4 y5 y6 y7, LeO (selvageref10_Valid.l0 k y0 y1 y2 y3 y4 y5 y6 y7) (selvageref10_Valid.l0 (k + 1) y0 y1 y2 y3 y4 y5 y6 y7))
 | 0 => ⟨fun _ _ _ _ _ _ _ r h => by simp [selvageref10_Valid.j0] at h, fun _ _ _ _ _ _ _ _ r h => by simp [selvageref10_Valid.l0] at h⟩
 | k + 1 => by
  obtain ⟨ih0, ih1⟩ := selvageref10_Valid.mono_l k
  refine ⟨?_, ?_⟩
  ·intro y0 y1 y2 y3 y4 y5 y6
   unfold selvageref10_Valid.j0
   repeat' first
   | (with_reducible exact ih0 _ _ _ _ _ _ _)
   | (with_reducible exact ih1 _ _ _ _ _ _ _ _)
   | (with_reducible exact selvageref10_Counts.mono _ _)
   | (with_reducible exact selvageref10_rows.mono _ _)
   | (with_reducible exact LeO.refl _)
   | (with_reducible exact LeO.none _)
   | (with_reducible refine LeO.ite ?_ ?_)
   | (with_reducible refine LeO.bind ?_ (fun _ => ?_))
   | exact ih0 _ _ _ _ _ _ _
   | exact ih1 _ _ _ _ _ _ _ _
   | exact selvageref10_Counts.mono _ _
   | exact selvageref10_rows.mono _ _
   | exact LeO.none _
   | refine LeO.ite ?_ ?_
   | refine LeO.bind ?_ (fun _ => ?_)
  ·intro y0 y1 y2 y3 y4 y5 y6 y7
   unfold selvageref10_Valid.l0
   repeat' first
   | (with_reducible exact ih0 _ _ _ _ _ _ _)
   | (with_reducible exact ih1 _ _ _ _ _ _ _ _)
   | (with_reducible exact selvageref10_Counts.mono _ _)
   | (with_reducible exact selvageref10_rows.mono _ _)
   | (with_reducible exact LeO.refl _)
   | (with_reducible exact LeO.none _)
   | (with_reducible refine LeO.ite ?_ ?_)
   | (with_reducible refine LeO.bind ?_ (fun _ => ?_))
   | exact ih0 _ _ _ _ _ _ _
   | exact ih1 _ _ _ _ _ _ _ _
   | exact selvageref10_Counts.mono _ _
   | exact selvageref10_rows.mono _ _
   | exact LeO.none _
   | refine LeO.ite ?_ ?_
   | refine LeO.bind ?_ (fun _ => ?_)
theorem selvageref10_Valid.mono : ∀ a0 a1 a2 a3 a4 a5 k, LeO (selvageref10_Valid.f k a0 a1 a2 a3 a4 a5) (selvageref10_Valid.f (k + 1) a0 a1 a2 a3 a4 a5) := by
 intro a0 a1 a2 a3 a4 a5 k
 obtain ⟨ih0, ih1⟩ := selvageref10_Valid.mono_l k
 unfold selvageref10_Valid.f
 repeat' first
   | (with_reducible exact ih0 _ _ _ _ _ _ _)
   | (with_reducible exact ih1 _ _ _ _ _ _ _ _)
   | (with_reducible exact selvageref10_Counts.mono _ _)
   | (with_reducible exact selvageref10_rows.mono _ _)
   | (with_reducible exact LeO.refl _)
   | (with_reducible exact LeO.none _)
   | (with_reducible refine LeO.ite ?_ ?_)
   | (with_reducible refine LeO.bind ?_ (fun _ => ?_))
   | exact ih0 _ _ _ _ _ _ _
   | exact ih1 _ _ _ _ _ _ _ _
   | exact selvageref10_Counts.mono _ _
   | exact selvageref10_rows.mono _ _
   | exact LeO.none _
   | refine LeO.ite ?_ ?_
   | refine LeO.bind ?_ (fun _ => ?_)
set_option maxHeartbeats 8000000 in
set_option maxRecDepth 100000 in
theorem selvageref10_Valid.calls (k : Nat) (a0_0 : Int) (a0_1 : Int) (a0_2 : Int) (a0_3 : Int) (a0_4 : ByteArray) (A0_5 : Option Addr) (c0_5 : Nat) (l0_5 : List (S53)) (r : Int) (w : World) (hr0_5 : Kd.C k53 w A0_5 l0_5.length l0_5) (hc0_5 : l0_5.length ≤ c0_5) (h : selvageref10_Valid.f k a0_0 a0_1 a0_2 a0_3 a0_4 l0_5 = some r) :
  Calls Tryz.prog 13 #[.agg #[.int .i64 a0_0, .int .i64 a0_1, .int .i64 a0_2, .int .i64 a0_3, .string a0_4, .slice A0_5 l0_5.length c0_5]] w fun e w' => e = .returned (.int .i64 r) ∧ Below w.heap.size w w' := by
 have hu29 := Tryz.underlying29
 have HR0_5 := Aside0.mk hr0_5
 have HC0_5 := Aside0.mk hc0_5
 clear hr0_5 hc0_5
 have HB := Aside0.mk (Below.refl w.heap.size w)
 have H := h
 clear h
 unfold selvageref10_Valid.f at H
 replace H := bdS H
 obtain ⟨⟨t145, t146⟩, A2, H⟩ := H
 replace H : ((selvageref10_rows.f k l0_5).bind fun t147 => (if t147 = true then (if a0_1 = t145 then (if a0_3 = t146 then ((selvageref10_start.f a0_0 t145).bind fun t148 => (if t148 = true then ((selvageref10_start.f a0_2 t146).bind fun t149 => (if t149 = true then (selvageref10_Valid.j0 k (decide ((a0_4.size : Int) ≤ 4096)) a0_0 a0_1 a0_2 a0_3 a0_4 l0_5) else (selvageref10_Valid.j0 k false a0_0 a0_1 a0_2 a0_3 a0_4 l0_5))) else (selvageref10_Valid.j0 k false a0_0 a0_1 a0_2 a0_3 a0_4 l0_5))) else (selvageref10_Valid.j0 k false a0_0 a0_1 a0_2 a0_3 a0_4 l0_5)) else (selvageref10_Valid.j0 k false a0_0 a0_1 a0_2 a0_3 a0_4 l0_5)) else (selvageref10_Valid.j0 k false a0_0 a0_1 a0_2 a0_3 a0_4 l0_5))) = some r := H
 have HC3 := Aside0.mk H
 clear H
 go_enter Tryz.func13, Tryz.ntmps13
 go_upto_region 2 with (first | ((with_reducible refine gate_dst (N := 1) rfl ?_); (try (refine gate_guard (by rfl) ?_; dsimp only)); refine boxEv (N := 1) #[.int .i64 a0_0, .int .i64 a0_1, .int .i64 a0_2, .int .i64 a0_3, .string a0_4, .slice A0_5 l0_5.length c0_5] 29 ?_; intro gb144 hg w4 hbox hb; have BK144 := Aside0.mk hbox; have GW144 := gwN HB hg; have GE144 := GW144; replace HB := hbD HB hb; clear hb hbox hg; obtain ⟨hcz5_0, hcz5_1, hcz5_2, hcz5_3, hcz5_4, hcz5_5, hfz5_0, hfz5_1, hfz5_2, hfz5_3, hfz5_4, hfz5_5⟩ := bcf6 (W := w4) BK144) | ((with_reducible refine gate_callee (f := 43) rfl ?_); refine goL (some 10) Tryz.func43 #[.slice A0_5 l0_5.length c0_5] ?_; (with_reducible refine (selvageref10_Counts.calls k _ _ l0_5 t145 t146 _ ?side1 ?side2 A2.out).mono ?_); (case side1 => exact kcU HR0_5 HB); (case side2 => exact HC0_5.out); rintro e w6 ⟨rfl, hb⟩; refine ⟨_, rfl, ?_⟩; replace BK144 := bkD BK144 hb; replace HB := hbD HB hb; clear hb))
 (try simp only [Act.put, List.setIfInBounds_toArray, List.set_cons_zero, List.set_cons_succ])
 go_cut [5] (fun v5 wc => ∃ (kq : Nat) (x5_2 : Bool), v5 = .bool x5_2 ∧ Aside0 (selvageref10_Valid.j0 kq x5_2 a0_0 a0_1 a0_2 a0_3 a0_4 l0_5 = some r) ∧ Aside0 (kq ≤ k) ∧ Aside0 (wc.heap[gb144]? = some (.cells #[.int .i64 a0_0, .int .i64 a0_1, .int .i64 a0_2, .int .i64 a0_3, .string a0_4, (.slice A0_5 l0_5.length c0_5)] 29 (0, 0))) ∧ Aside0 (Below w.heap.size w wc))
 case first =>
  have H := HC3.out
  clear HC3
  replace H := bdS H
  obtain ⟨t147, A7, H⟩ := H
  replace H := itBn H
  rcases H with ⟨rfl, H⟩ | ⟨rfl, H⟩
  ·have H' := Aside0.mk H
   clear H
   have hcz30_0 := bkc (v := .int .i64 a0_0) BK144.out 0 rfl
   have hcz30_1 := bkc (v := .int .i64 a0_1) BK144.out 1 rfl
   have hcz30_2 := bkc (v := .int .i64 a0_2) BK144.out 2 rfl
   have hcz30_3 := bkc (v := .int .i64 a0_3) BK144.out 3 rfl
   have hcz30_4 := bkc (v := .string a0_4) BK144.out 4 rfl
   have hcz30_5 := bkc (v := .slice A0_5 l0_5.length c0_5) BK144.out 5 rfl
   have hfz30_0 := blk_frozen BK144.out 0
   have hfz30_1 := blk_frozen BK144.out 1
   have hfz30_2 := blk_frozen BK144.out 2
   have hfz30_3 := blk_frozen BK144.out 3
   have hfz30_4 := blk_frozen BK144.out 4
   have hfz30_5 := blk_frozen BK144.out 5
   go_wp2_with (first | ((with_reducible refine gate_callee (f := 44) rfl ?_); refine goL (some 15) Tryz.func44 #[.slice A0_5 l0_5.length c0_5] ?_; (with_reducible refine (selvageref10_rows.calls k _ _ l0_5 false _ ?side1 ?side2 A7.out).mono ?_); (case side1 => exact kcU HR0_5 HB); (case side2 => exact HC0_5.out); rintro e w31 ⟨rfl, hb⟩; refine ⟨_, rfl, ?_⟩; replace BK144 := bkD BK144 hb; replace HB := hbD HB hb; clear hb))
   go_meet
   case rel => exact ⟨_, (false), eqNow, H', ⟨by first | omega | exact Nat.le_refl _⟩, ⟨bkUp BK144.out⟩, ⟨belPut⟩⟩
  replace H := itEn H
  rcases H with ⟨c9, c9b0, c9b1, H⟩ | ⟨-, c9b0, c9b1, H⟩
  ·(first | rw [c9b0] | (simp only [i64_w, i32_w]; rw [c9b0]) | skip)
   have H' := Aside0.mk H
   clear H
   have hcz27_0 := bkc (v := .int .i64 a0_0) BK144.out 0 rfl
   have hcz27_1 := bkc (v := .int .i64 a0_1) BK144.out 1 rfl
   have hcz27_2 := bkc (v := .int .i64 a0_2) BK144.out 2 rfl
   have hcz27_3 := bkc (v := .int .i64 a0_3) BK144.out 3 rfl
   have hcz27_4 := bkc (v := .string a0_4) BK144.out 4 rfl
   have hcz27_5 := bkc (v := .slice A0_5 l0_5.length c0_5) BK144.out 5 rfl
   have hfz27_0 := blk_frozen BK144.out 0
   have hfz27_1 := blk_frozen BK144.out 1
   have hfz27_2 := blk_frozen BK144.out 2
   have hfz27_3 := blk_frozen BK144.out 3
   have hfz27_4 := blk_frozen BK144.out 4
   have hfz27_5 := blk_frozen BK144.out 5
   go_wp2_with (first | ((with_reducible refine gate_callee (f := 44) rfl ?_); refine goL (some 15) Tryz.func44 #[.slice A0_5 l0_5.length c0_5] ?_; (with_reducible refine (selvageref10_rows.calls k _ _ l0_5 true _ ?side1 ?side2 A7.out).mono ?_); (case side1 => exact kcU HR0_5 HB); (case side2 => exact HC0_5.out); rintro e w28 ⟨rfl, hb⟩; refine ⟨_, rfl, ?_⟩; replace BK144 := bkD BK144 hb; replace HB := hbD HB hb; clear hb; obtain ⟨hcz29_0, hcz29_1, hcz29_2, hcz29_3, hcz29_4, hcz29_5, hfz29_0, hfz29_1, hfz29_2, hfz29_3, hfz29_4, hfz29_5⟩ := bcf6 (W := w28) BK144))
   go_meet
   case rel => exact ⟨_, (false), eqNow, H', ⟨by first | omega | exact Nat.le_refl _⟩, ⟨bkUp BK144.out⟩, ⟨belPut⟩⟩
  (first | rw [c9b0] | (simp only [i64_w, i32_w]; rw [c9b0]) | skip)
  replace H := itEn H
  rcases H with ⟨c10, c10b0, c10b1, H⟩ | ⟨-, c10b0, c10b1, H⟩
  ·have H' := Aside0.mk H
   clear H
   have hcz24_0 := bkc (v := .int .i64 a0_0) BK144.out 0 rfl
   have hcz24_1 := bkc (v := .int .i64 a0_1) BK144.out 1 rfl
   have hcz24_2 := bkc (v := .int .i64 a0_2) BK144.out 2 rfl
   have hcz24_3 := bkc (v := .int .i64 a0_3) BK144.out 3 rfl
   have hcz24_4 := bkc (v := .string a0_4) BK144.out 4 rfl
   have hcz24_5 := bkc (v := .slice A0_5 l0_5.length c0_5) BK144.out 5 rfl
   have hfz24_0 := blk_frozen BK144.out 0
   have hfz24_1 := blk_frozen BK144.out 1
   have hfz24_2 := blk_frozen BK144.out 2
   have hfz24_3 := blk_frozen BK144.out 3
   have hfz24_4 := blk_frozen BK144.out 4
   have hfz24_5 := blk_frozen BK144.out 5
   go_wp2_with (first | ((with_reducible refine gate_callee (f := 44) rfl ?_); refine goL (some 15) Tryz.func44 #[.slice A0_5 l0_5.length c0_5] ?_; (with_reducible refine (selvageref10_rows.calls k _ _ l0_5 true _ ?side1 ?side2 A7.out).mono ?_); (case side1 => exact kcU HR0_5 HB); (case side2 => exact HC0_5.out); rintro e w25 ⟨rfl, hb⟩; refine ⟨_, rfl, ?_⟩; replace BK144 := bkD BK144 hb; replace HB := hbD HB hb; clear hb; obtain ⟨hcz26_0, hcz26_1, hcz26_2, hcz26_3, hcz26_4, hcz26_5, hfz26_0, hfz26_1, hfz26_2, hfz26_3, hfz26_4, hfz26_5⟩ := bcf6 (W := w25) BK144))
   go_meet
   case rel => exact ⟨_, (false), eqNow, H', ⟨by first | omega | exact Nat.le_refl _⟩, ⟨bkUp BK144.out⟩, ⟨belPut⟩⟩
  replace H := bdS H
  obtain ⟨t148, A11, H⟩ := H
  replace H := itBn H
  rcases H with ⟨rfl, H⟩ | ⟨rfl, H⟩
  ·have H' := Aside0.mk H
   clear H
   have hcz21_0 := bkc (v := .int .i64 a0_0) BK144.out 0 rfl
   have hcz21_1 := bkc (v := .int .i64 a0_1) BK144.out 1 rfl
   have hcz21_2 := bkc (v := .int .i64 a0_2) BK144.out 2 rfl
   have hcz21_3 := bkc (v := .int .i64 a0_3) BK144.out 3 rfl
   have hcz21_4 := bkc (v := .string a0_4) BK144.out 4 rfl
   have hcz21_5 := bkc (v := .slice A0_5 l0_5.length c0_5) BK144.out 5 rfl
   have hfz21_0 := blk_frozen BK144.out 0
   have hfz21_1 := blk_frozen BK144.out 1
   have hfz21_2 := blk_frozen BK144.out 2
   have hfz21_3 := blk_frozen BK144.out 3
   have hfz21_4 := blk_frozen BK144.out 4
   have hfz21_5 := blk_frozen BK144.out 5
   go_wp2_with (first | ((with_reducible refine gate_callee (f := 44) rfl ?_); refine goL (some 15) Tryz.func44 #[.slice A0_5 l0_5.length c0_5] ?_; (with_reducible refine (selvageref10_rows.calls k _ _ l0_5 true _ ?side1 ?side2 A7.out).mono ?_); (case side1 => exact kcU HR0_5 HB); (case side2 => exact HC0_5.out); rintro e w22 ⟨rfl, hb⟩; refine ⟨_, rfl, ?_⟩; replace BK144 := bkD BK144 hb; replace HB := hbD HB hb; clear hb; obtain ⟨hcz23_0, hcz23_1, hcz23_2, hcz23_3, hcz23_4, hcz23_5, hfz23_0, hfz23_1, hfz23_2, hfz23_3, hfz23_4, hfz23_5⟩ := bcf6 (W := w22) BK144) | (go_at_call 45; (with_reducible refine (selvageref10_start.calls a0_0 t145 false _ A11.out).mono ?_); rintro e w' ⟨rfl, ⟨nd, rfl⟩⟩))
   go_meet
   case rel => exact ⟨_, (false), eqNow, H', ⟨by first | omega | exact Nat.le_refl _⟩, ⟨bkUp BK144.out⟩, ⟨belPut⟩⟩
  replace H := bdS H
  obtain ⟨t149, A13, H⟩ := H
  replace H := itB H
  rcases H with ⟨rfl, H⟩ | ⟨rfl, H⟩
  ·have H' := Aside0.mk H
   clear H
   have hcz15_0 := bkc (v := .int .i64 a0_0) BK144.out 0 rfl
   have hcz15_1 := bkc (v := .int .i64 a0_1) BK144.out 1 rfl
   have hcz15_2 := bkc (v := .int .i64 a0_2) BK144.out 2 rfl
   have hcz15_3 := bkc (v := .int .i64 a0_3) BK144.out 3 rfl
   have hcz15_4 := bkc (v := .string a0_4) BK144.out 4 rfl
   have hcz15_5 := bkc (v := .slice A0_5 l0_5.length c0_5) BK144.out 5 rfl
   have hfz15_0 := blk_frozen BK144.out 0
   have hfz15_1 := blk_frozen BK144.out 1
   have hfz15_2 := blk_frozen BK144.out 2
   have hfz15_3 := blk_frozen BK144.out 3
   have hfz15_4 := blk_frozen BK144.out 4
   have hfz15_5 := blk_frozen BK144.out 5
   go_wp2_with (first | ((with_reducible refine gate_callee (f := 44) rfl ?_); refine goL (some 15) Tryz.func44 #[.slice A0_5 l0_5.length c0_5] ?_; (with_reducible refine (selvageref10_rows.calls k _ _ l0_5 true _ ?side1 ?side2 A7.out).mono ?_); (case side1 => exact kcU HR0_5 HB); (case side2 => exact HC0_5.out); rintro e w16 ⟨rfl, hb⟩; refine ⟨_, rfl, ?_⟩; replace BK144 := bkD BK144 hb; replace HB := hbD HB hb; clear hb; obtain ⟨hcz17_0, hcz17_1, hcz17_2, hcz17_3, hcz17_4, hcz17_5, hfz17_0, hfz17_1, hfz17_2, hfz17_3, hfz17_4, hfz17_5⟩ := bcf6 (W := w16) BK144) | (go_at_call 45; (with_reducible refine (selvageref10_start.calls a0_0 t145 true _ A11.out).mono ?_); rintro e w' ⟨rfl, ⟨nd, rfl⟩⟩) | (go_at_call 45; (with_reducible refine (selvageref10_start.calls a0_2 t146 true _ A13.out).mono ?_); rintro e w' ⟨rfl, ⟨nd, rfl⟩⟩))
   go_meet
   case rel => exact ⟨_, (decide ((a0_4.size : Int) ≤ 4096)), eqNow, H', ⟨by first | omega | exact Nat.le_refl _⟩, ⟨bkUp BK144.out⟩, ⟨belPut⟩⟩
  have H' := Aside0.mk H
  clear H
  have hcz18_0 := bkc (v := .int .i64 a0_0) BK144.out 0 rfl
  have hcz18_1 := bkc (v := .int .i64 a0_1) BK144.out 1 rfl
  have hcz18_2 := bkc (v := .int .i64 a0_2) BK144.out 2 rfl
  have hcz18_3 := bkc (v := .int .i64 a0_3) BK144.out 3 rfl
  have hcz18_4 := bkc (v := .string a0_4) BK144.out 4 rfl
  have hcz18_5 := bkc (v := .slice A0_5 l0_5.length c0_5) BK144.out 5 rfl
  have hfz18_0 := blk_frozen BK144.out 0
  have hfz18_1 := blk_frozen BK144.out 1
  have hfz18_2 := blk_frozen BK144.out 2
  have hfz18_3 := blk_frozen BK144.out 3
  have hfz18_4 := blk_frozen BK144.out 4
  have hfz18_5 := blk_frozen BK144.out 5
  go_wp2_with (first | ((with_reducible refine gate_callee (f := 44) rfl ?_); refine goL (some 15) Tryz.func44 #[.slice A0_5 l0_5.length c0_5] ?_; (with_reducible refine (selvageref10_rows.calls k _ _ l0_5 true _ ?side1 ?side2 A7.out).mono ?_); (case side1 => exact kcU HR0_5 HB); (case side2 => exact HC0_5.out); rintro e w19 ⟨rfl, hb⟩; refine ⟨_, rfl, ?_⟩; replace BK144 := bkD BK144 hb; replace HB := hbD HB hb; clear hb; obtain ⟨hcz20_0, hcz20_1, hcz20_2, hcz20_3, hcz20_4, hcz20_5, hfz20_0, hfz20_1, hfz20_2, hfz20_3, hfz20_4, hfz20_5⟩ := bcf6 (W := w19) BK144) | (go_at_call 45; (with_reducible refine (selvageref10_start.calls a0_0 t145 true _ A11.out).mono ?_); rintro e w' ⟨rfl, ⟨nd, rfl⟩⟩) | (go_at_call 45; (with_reducible refine (selvageref10_start.calls a0_2 t146 false _ A13.out).mono ?_); rintro e w' ⟨rfl, ⟨nd, rfl⟩⟩))
  go_meet
  case rel => exact ⟨_, (false), eqNow, H', ⟨by first | omega | exact Nat.le_refl _⟩, ⟨bkUp BK144.out⟩, ⟨belPut⟩⟩
 case rest =>
  clear HC3
  try clear hcz5_0 hcz5_1 hcz5_2 hcz5_3 hcz5_4 hcz5_5
  try clear hfz5_0 hfz5_1 hfz5_2 hfz5_3 hfz5_4 hfz5_5
  obtain ⟨kq, x5_2, rfl, HA, HJ2, BK144, HB⟩ := hcut
  cases kq with
  | zero => exact absurd HA.out (by simp [selvageref10_Valid.j0])
  | succ kj2 =>
   have H := HA.out
   clear HA
   simp only [selvageref10_Valid.j0] at H
   have H' := Aside0.mk H
   clear H
   go_wp2
   go_loopg [5, 6] kj2 (fun kq v5 v6 w' => ∃ (x5_2 : Bool) (x6_2 : Int), v5 = .bool x5_2 ∧ v6 = .int .i64 x6_2 ∧ Aside0 (selvageref10_Valid.l0 kq x5_2 x6_2 a0_0 a0_1 a0_2 a0_3 a0_4 l0_5 = some r) ∧ Aside0 (kq ≤ kj2) ∧ Aside0 (w'.heap[gb144]? = some (.cells #[.int .i64 a0_0, .int .i64 a0_1, .int .i64 a0_2, .int .i64 a0_3, .string a0_4, (.slice A0_5 l0_5.length c0_5)] 29 (0, 0))) ∧ Aside0 (Below w.heap.size w w'))
   case atStart => exact ⟨(x5_2), (0), eqNow, eqNow, H', ⟨Nat.le_refl _⟩, ⟨bkUp BK144.out⟩, ⟨belPut⟩⟩
   case round =>
    clear H'
    try clear hcz5_0 hcz5_1 hcz5_2 hcz5_3 hcz5_4 hcz5_5
    try clear hfz5_0 hfz5_1 hfz5_2 hfz5_3 hfz5_4 hfz5_5
    obtain ⟨x5_2, x6_2, rfl, rfl, HA, HK2, BK144, HB⟩ := hrel
    cases gk with
    | zero => exact absurd HA.out (by simp [selvageref10_Valid.l0])
    | succ k2 =>
     have H := HA.out
     clear HA
     simp only [selvageref10_Valid.l0] at H
     replace H := itLn H
     rcases H with ⟨-, c32b0, H⟩ | ⟨-, c32b0, H⟩
     ·replace H := itB H
      rcases H with ⟨rfl, H⟩ | ⟨rfl, H⟩
      ·obtain rfl := Option.some.inj H
       have hcz39_0 := bkc (v := .int .i64 a0_0) BK144.out 0 rfl
       have hcz39_1 := bkc (v := .int .i64 a0_1) BK144.out 1 rfl
       have hcz39_2 := bkc (v := .int .i64 a0_2) BK144.out 2 rfl
       have hcz39_3 := bkc (v := .int .i64 a0_3) BK144.out 3 rfl
       have hcz39_4 := bkc (v := .string a0_4) BK144.out 4 rfl
       have hcz39_5 := bkc (v := .slice A0_5 l0_5.length c0_5) BK144.out 5 rfl
       have hfz39_0 := blk_frozen BK144.out 0
       have hfz39_1 := blk_frozen BK144.out 1
       have hfz39_2 := blk_frozen BK144.out 2
       have hfz39_3 := blk_frozen BK144.out 3
       have hfz39_4 := blk_frozen BK144.out 4
       have hfz39_5 := blk_frozen BK144.out 5
       go_wp2
       go_ret
       exact ⟨eqEnd, belPut⟩
      obtain rfl := Option.some.inj H
      have hcz40_0 := bkc (v := .int .i64 a0_0) BK144.out 0 rfl
      have hcz40_1 := bkc (v := .int .i64 a0_1) BK144.out 1 rfl
      have hcz40_2 := bkc (v := .int .i64 a0_2) BK144.out 2 rfl
      have hcz40_3 := bkc (v := .int .i64 a0_3) BK144.out 3 rfl
      have hcz40_4 := bkc (v := .string a0_4) BK144.out 4 rfl
      have hcz40_5 := bkc (v := .slice A0_5 l0_5.length c0_5) BK144.out 5 rfl
      have hfz40_0 := blk_frozen BK144.out 0
      have hfz40_1 := blk_frozen BK144.out 1
      have hfz40_2 := blk_frozen BK144.out 2
      have hfz40_3 := blk_frozen BK144.out 3
      have hfz40_4 := blk_frozen BK144.out 4
      have hfz40_5 := blk_frozen BK144.out 5
      go_wp2
      go_ret
      exact ⟨eqEnd, belPut⟩
     replace H := itBn H
     rcases H with ⟨rfl, H⟩ | ⟨rfl, H⟩
     ·have H' := Aside0.mk H
      clear H
      have hcz37_0 := bkc (v := .int .i64 a0_0) BK144.out 0 rfl
      have hcz37_1 := bkc (v := .int .i64 a0_1) BK144.out 1 rfl
      have hcz37_2 := bkc (v := .int .i64 a0_2) BK144.out 2 rfl
      have hcz37_3 := bkc (v := .int .i64 a0_3) BK144.out 3 rfl
      have hcz37_4 := bkc (v := .string a0_4) BK144.out 4 rfl
      have hcz37_5 := bkc (v := .slice A0_5 l0_5.length c0_5) BK144.out 5 rfl
      have hfz37_0 := blk_frozen BK144.out 0
      have hfz37_1 := blk_frozen BK144.out 1
      have hfz37_2 := blk_frozen BK144.out 2
      have hfz37_3 := blk_frozen BK144.out 3
      have hfz37_4 := blk_frozen BK144.out 4
      have hfz37_5 := blk_frozen BK144.out 5
      go_wp2
      go_roundg k2
      case measure => have := HJ2.out; have := HK2.out; omega
      case rel => exact ⟨(false), (wrap64 (x6_2 + 1)), eqNow, eqNow, H', ⟨by have := HJ2.out; have := HK2.out; omega⟩, ⟨bkUp BK144.out⟩, ⟨belPut⟩⟩
     replace H := itLn H
     rcases H with ⟨_, _, H⟩ | ⟨-, c34b0, H⟩
     ·cases H
     have H' := Aside0.mk H
     clear H
     have hcz36_0 := bkc (v := .int .i64 a0_0) BK144.out 0 rfl
     have hcz36_1 := bkc (v := .int .i64 a0_1) BK144.out 1 rfl
     have hcz36_2 := bkc (v := .int .i64 a0_2) BK144.out 2 rfl
     have hcz36_3 := bkc (v := .int .i64 a0_3) BK144.out 3 rfl
     have hcz36_4 := bkc (v := .string a0_4) BK144.out 4 rfl
     have hcz36_5 := bkc (v := .slice A0_5 l0_5.length c0_5) BK144.out 5 rfl
     have hfz36_0 := blk_frozen BK144.out 0
     have hfz36_1 := blk_frozen BK144.out 1
     have hfz36_2 := blk_frozen BK144.out 2
     have hfz36_3 := blk_frozen BK144.out 3
     have hfz36_4 := blk_frozen BK144.out 4
     have hfz36_5 := blk_frozen BK144.out 5
     have p35 : 0 ≤ (x6_2 : Int) := ofDec
     have q35 : x6_2 < (a0_4.size : Int) := ofDec
     have hx35 := bt_at a0_4 x6_2
     replace p35 := eq_true p35
     replace q35 := eq_true q35
     go_wp2
     go_roundg k2
     case measure => have := HJ2.out; have := HK2.out; omega
     case rel => exact ⟨(((bt a0_4 x6_2) != 10)), (wrap64 (x6_2 + 1)), eqNow, eqNow, H', ⟨by have := HJ2.out; have := HK2.out; omega⟩, ⟨bkUp BK144.out⟩, ⟨belPut⟩⟩
def selvagelaw10_twin.f (a0_0 : Int) (a0_1 : Int) (a0_2 : Int) (a0_3 : Int) (a0_4 : ByteArray) (l0_5 : List (S53)) : Option (Int × Int × Int × Int × ByteArray × (List (S53))) := if ([] : List (S53)).length + l0_5.length < 5864062014805 then (some (a0_0, a0_1, a0_2, a0_3, a0_4, (([] : List (S53)) ++ l0_5))) else (none)
set_option maxHeartbeats 8000000 in
set_option maxRecDepth 100000 in
theorem selvagelaw10_twin.calls (a0_0 : Int) (a0_1 : Int) (a0_2 : Int) (a0_3 : Int) (a0_4 : ByteArray) (A0_5 : Option Addr) (c0_5 : Nat) (l0_5 : List (S53)) (r1 : Int) (r2 : Int) (r3 : Int) (r4 : Int) (r5 : ByteArray) (r6 : List (S53)) (w : World) (hr0_5 : Kd.C k53 w A0_5 l0_5.length l0_5) (hc0_5 : l0_5.length ≤ c0_5) (h : selvagelaw10_twin.f a0_0 a0_1 a0_2 a0_3 a0_4 l0_5 = some (r1, r2, r3, r4, r5, r6)) :
  Calls Tryz.prog 25 #[.agg #[.int .i64 a0_0, .int .i64 a0_1, .int .i64 a0_2, .int .i64 a0_3, .string a0_4, .slice A0_5 l0_5.length c0_5]] w fun e w' => ∃ v5_ : Value, e = .returned (.agg #[.int .i64 r1, .int .i64 r2, .int .i64 r3, .int .i64 r4, .string r5, v5_]) ∧ Kd.R k53 53 w' w.heap.size (fun _ => True) v5_ r6 ∧ Below w.heap.size w w' := by
 have hu29 := Tryz.underlying29
 have HR0_5 := Aside0.mk hr0_5
 have HC0_5 := Aside0.mk hc0_5
 clear hr0_5 hc0_5
 have HB := Aside0.mk (Below.refl w.heap.size w)
 have H := h
 clear h
 unfold selvagelaw10_twin.f at H
 replace H := itLn H
 rcases H with ⟨_, _, H⟩ | ⟨c2, -, H⟩
 ·cases H
 have LMc2 := Aside0.mk c2
 clear c2
 obtain ⟨y152, hy152⟩ : ∃ y_ : List (S53), y_ = (([] : List (S53)) ++ l0_5) := ⟨_, rfl⟩
 replace H : (some (a0_0, a0_1, a0_2, a0_3, a0_4, y152)) = some (r1, r2, r3, r4, r5, r6) := by first | (rw [hy152]; with_reducible exact H) | (have H2_ := (Option.bind_some _ _).symm.trans H; rw [hy152]; with_reducible exact H2_) | (have H2_ := (Option.bind_some _ _).symm.trans H; with_reducible exact H2_) | with_reducible exact H | (rw [hy152]; exact H) | exact H
 have Ny152 := Aside0.mk hy152
 clear hy152
 simp only [Option.some.injEq, Prod.mk.injEq] at H
 obtain ⟨rfl, rfl, rfl, rfl, rfl, rfl⟩ := H
 go_enter Tryz.func25, Tryz.ntmps25
 go_wp2_with (first | ((with_reducible refine gate_dst (N := 1) rfl ?_); refine boxEv (N := 1) #[.int .i64 a0_0, .int .i64 a0_1, .int .i64 a0_2, .int .i64 a0_3, .string a0_4, .slice A0_5 l0_5.length c0_5] 29 ?_; intro gb150 hg w3 hbox hb; have BK150 := Aside0.mk hbox; have GW150 := gwN HB hg; have GE150 := GW150; replace HB := hbD HB hb; clear hb hbox hg) | ((with_reducible refine gate_dst (N := 2) rfl ?_); refine boxEv (N := 2) #[.int .i64 0, .int .i64 0, .int .i64 0, .int .i64 0, .string (⟨#[]⟩ : ByteArray), .slice none 0 0] 29 ?_; intro gb151 hg w4 hbox hb; have BK151 := Aside0.mk hbox; have GW151 := gwN HB hg; have GE151 := GW151; replace HB := hbD HB hb; have NB150_151 := nbL BK150 hg; have NB151_150 := nbR BK150 hg; replace BK150 := bkD BK150 hb; clear hb hbox hg; have hnb5 := NB150_151.out; have hnc5 := NB151_150.out; obtain ⟨hcz6_0, hcz6_1, hcz6_2, hcz6_3, hcz6_4, hcz6_5, hfz6_0, hfz6_1, hfz6_2, hfz6_3, hfz6_4, hfz6_5⟩ := bcf6 (W := w4) BK150) | ((with_reducible refine gate_builtin (b := .append) (xs := #[.tmp 4, .tmp 6]) rfl ?_); at_builtin; refine Kd.R_append_rows k53 (w0 := w) w.heap.size rfl (.tmp 4) (.tmp 6) 27 53 (.agg #[(.int .i64 0), (.string ⟨#[]⟩)]) 24 rfl Tryz.underlying27 info53 rfl (by decide) (by omega) (.slice none 0 0) ([] : List (S53)) l0_5 _ _ _ (fun _ => True) (fun _ => False) rfl rfl ?aO ?aR (fun _ _ h => h) (fun _ h => h.elim) ?aF ?aB ?aS ?aL ?_; (case aR => repeat (first | exact (Kd.C_below HR0_5.out HB.out) | (with_reducible refine Kd.C_alloc ?_ _) | (with_reducible refine Kd.C_drewN ?_ _) | (with_reducible refine Kd.C_drew ?_))); (case aB => exact (belPut)); (case aF => exact (fun _ _ => trivial)); (case aO => exact ((Kd.R_nil _ _ _ _ (fun _ => True)))); (case aS => exact (below_size (belPut))); (case aL => have := LMc2.out; omega); intro v153 w7 ho hb hg hat; rw [← Ny152.out] at ho; replace BK150 := Aside0.mk (blk_grown (g := gb150) (o := .cells #[.int .i64 a0_0, .int .i64 a0_1, .int .i64 a0_2, .int .i64 a0_3, .string a0_4, .slice A0_5 l0_5.length c0_5] 29 (0, 0)) (bkUp BK150.out) hg (by simp [Value.ownBlock])); replace BK151 := Aside0.mk (blk_grown (g := gb151) (o := .cells #[.int .i64 0, .int .i64 0, .int .i64 0, .int .i64 0, .string (⟨#[]⟩ : ByteArray), .slice none 0 0] 29 (0, 0)) (bkUp BK151.out) hg (by simp [Value.ownBlock])); replace HB := Aside0.mk hb; have HO154 := Aside0.mk (ho); clear ho hb hg hat; obtain ⟨Ao8, co8, eo8⟩ := Kd.R_slice HO154.out; subst eo8; obtain ⟨hcz9_0, hcz9_1, hcz9_2, hcz9_3, hcz9_4, hcz9_5, hfz9_0, hfz9_1, hfz9_2, hfz9_3, hfz9_4, hfz9_5⟩ := bcf6 (W := w7) BK150; obtain ⟨hcz10_0, hcz10_1, hcz10_2, hcz10_3, hcz10_4, hcz10_5, hfz10_0, hfz10_1, hfz10_2, hfz10_3, hfz10_4, hfz10_5⟩ := bcf6 (W := w7) BK151))
 refine bodyPost_ret (results_cell_row rfl _ _ gb151 29 #[.int .i64 a0_0, .int .i64 a0_1, .int .i64 a0_2, .int .i64 a0_3, .string a0_4, .slice Ao8 y152.length co8] (0, 0) _ rfl (bkT BK151) Tryz.underlying29 rfl (by kernel_rfl)) rfl ?_
 exact ⟨_, eqEnd, by (with_reducible repeat (first | apply Kd.R_alloc | apply Kd.R_drewN | apply Kd.R_drew)); exact Kd.R_mono (Kd.R_far (p := ⟨gb151, 5, none⟩) (Kd.R_far (p := ⟨gb151, 4, none⟩) (Kd.R_far (p := ⟨gb151, 3, none⟩) (Kd.R_far (p := ⟨gb151, 2, none⟩) (Kd.R_far (p := ⟨gb151, 1, none⟩) (Kd.R_far (p := ⟨gb151, 0, none⟩) (Kd.R_far (p := ⟨gb150, 5, none⟩) (Kd.R_types (Kd.R_types HO154.out BK150.out (by decide)) BK151.out (by decide)) (fun _ hk => hk.1.2) (.slice Ao8 y152.length co8)) (fun _ hk => hk.2) (.int .i64 a0_0)) (fun _ hk => hk.2) (.int .i64 a0_1)) (fun _ hk => hk.2) (.int .i64 a0_2)) (fun _ hk => hk.2) (.int .i64 a0_3)) (fun _ hk => hk.2) (.string a0_4)) (fun _ hk => hk.2) (.slice Ao8 y152.length co8)) (fun _ hk => trivial), belPut⟩
end Go.Proofs.YtecjoofjiockkaaGreatDoor.Pp
