import Derived.Test.YtecjoofjiockkaaDoorESt
import Derived.Test.YtecjoofjiockkaaDoorPp0
namespace Go.Proofs.YtecjoofjiockkaaDoor.Pp
open Go.RowKit Go.Proofs.YtecjoofjiockkaaDoor.Ext Go.Proofs.YtecjoofjiockkaaDoorW.PrintWords Go.Proofs.YtecjoofjiockkaaDoorW.PrintLast Go.Proofs.YtecjoofjiockkaaDoorW.PrintMore
attribute [local go_sem] max2_int min2_int max_two min_two max_three min_three max_four min_four
mutual
def edits_Valid.j0 : Nat → List (S53) → Int → Int → Bool → Option (Option Int)
 | 0, _, _, _, _ => none
 | k + 1, x0, x1, x2, x24 => if x24 = true then (some (some 1)) else (edits_Valid.l0 k x1 x2 0 0 x0 (x0.length : Int) 0)
def edits_Valid.l0 : Nat → Int → Int → Int → Int → List (S53) → Int → Int → Option (Option Int)
 | 0, _, _, _, _, _, _, _ => none
 | k + 1, x1, x2, x7, x8, x26, x27, x28 => if x28 < x27 then (if 0 ≤ x28 then (if x28 < (x26.length : Int) then (if ((rd_T53 x26 x28).f1) < 0 then (some (some 60)) else (if ((rd_T53 x26 x28).f3) < 0 then (some (some 60)) else (if ((rd_T53 x26 x28).f1) = 0 then (if ((rd_T53 x26 x28).f3) = 0 then (some (some 60)) else (if ((rd_T53 x26 x28).f0) < x7 then (some (some 60)) else (if ((rd_T53 x26 x28).f0) > x1 then (some (some 60)) else (if ((rd_T53 x26 x28).f2) < x8 then (some (some 60)) else (if ((rd_T53 x26 x28).f2) > x2 then (some (some 60)) else (if (wrap64 (((rd_T53 x26 x28).f0) - x7)) = (wrap64 (((rd_T53 x26 x28).f2) - x8)) then (if ((rd_T53 x26 x28).f1) > (wrap64 (x1 - ((rd_T53 x26 x28).f0))) then (some (some 60)) else (if ((rd_T53 x26 x28).f3) > (wrap64 (x2 - ((rd_T53 x26 x28).f2))) then (some (some 60)) else (edits_Valid.l0 k x1 x2 (wrap64 (((rd_T53 x26 x28).f0) + ((rd_T53 x26 x28).f1))) (wrap64 (((rd_T53 x26 x28).f2) + ((rd_T53 x26 x28).f3))) x26 x27 (wrap64 (x28 + 1))))) else (some (some 60)))))))) else (if ((rd_T53 x26 x28).f0) < x7 then (some (some 60)) else (if ((rd_T53 x26 x28).f0) > x1 then (some (some 60)) else (if ((rd_T53 x26 x28).f2) < x8 then (some (some 60)) else (if ((rd_T53 x26 x28).f2) > x2 then (some (some 60)) else (if (wrap64 (((rd_T53 x26 x28).f0) - x7)) = (wrap64 (((rd_T53 x26 x28).f2) - x8)) then (if ((rd_T53 x26 x28).f1) > (wrap64 (x1 - ((rd_T53 x26 x28).f0))) then (some (some 60)) else (if ((rd_T53 x26 x28).f3) > (wrap64 (x2 - ((rd_T53 x26 x28).f2))) then (some (some 60)) else (edits_Valid.l0 k x1 x2 (wrap64 (((rd_T53 x26 x28).f0) + ((rd_T53 x26 x28).f1))) (wrap64 (((rd_T53 x26 x28).f2) + ((rd_T53 x26 x28).f3))) x26 x27 (wrap64 (x28 + 1))))) else (some (some 60)))))))))) else (none)) else (none)) else (if (wrap64 (x1 - x7)) = (wrap64 (x2 - x8)) then (some none) else (some (some 60)))
end
def edits_Valid.f (k : Nat) (l0 : List (S53)) (a1 : Int) (a2 : Int) : Option (Option Int) := if a1 < 0 then (edits_Valid.j0 k l0 a1 a2 true) else (if a1 > 4194304 then (edits_Valid.j0 k l0 a1 a2 true) else (if a2 < 0 then (edits_Valid.j0 k l0 a1 a2 true) else (edits_Valid.j0 k l0 a1 a2 (decide (a2 > 4194304)))))
theorem edits_Valid.mono_l : ∀ k, (∀ y0 y1 y2 y3, LeO (edits_Valid.j0 k y0 y1 y2 y3) (edits_Valid.j0 (k + 1) y0 y1 y2 y3)) ∧ (∀ y0 y1 y2 y3 y4 y5 y6, LeO (edits_Valid.l0 k y0 y1 y2 y3 y4 y5 y6) (edits_Valid.l0 (k + 1) y0 y1 y2 y3 y4 y5 y6))
 | 0 => ⟨fun _ _ _ _ r h => by simp [edits_Valid.j0] at h, fun _ _ _ _ _ _ _ r h => by simp [edits_Valid.l0] at h⟩
 | k + 1 => by
  obtain ⟨ih0, ih1⟩ := edits_Valid.mono_l k
  refine ⟨?_, ?_⟩
  ·intro y0 y1 y2 y3
   unfold edits_Valid.j0
   repeat' first
   | (with_reducible exact ih0 _ _ _ _)
   | (with_reducible exact ih1 _ _ _ _ _ _ _)
   | (with_reducible exact LeO.refl _)
   | (with_reducible exact LeO.none _)
   | (with_reducible refine LeO.ite ?_ ?_)
   | (with_reducible refine LeO.bind ?_ (fun _ => ?_))
   | exact ih0 _ _ _ _
   | exact ih1 _ _ _ _ _ _ _
   | exact LeO.none _
   | refine LeO.ite ?_ ?_
   | refine LeO.bind ?_ (fun _ => ?_)
  ·intro y0 y1 y2 y3 y4 y5 y6
   unfold edits_Valid.l0
   repeat' first
   | (with_reducible exact ih0 _ _ _ _)
   | (with_reducible exact ih1 _ _ _ _ _ _ _)
   | (with_reducible exact LeO.refl _)
   | (with_reducible exact LeO.none _)
   | (with_reducible refine LeO.ite ?_ ?_)
   | (with_reducible refine LeO.bind ?_ (fun _ => ?_))
   | exact ih0 _ _ _ _
   | exact ih1 _ _ _ _ _ _ _
   | exact LeO.none _
   | refine LeO.ite ?_ ?_
   | refine LeO.bind ?_ (fun _ => ?_)
theorem edits_Valid.mono : ∀ a0 a1 a2 k, LeO (edits_Valid.f k a0 a1 a2) (edits_Valid.f (k + 1) a0 a1 a2) := by
 intro a0 a1 a2 k
 obtain ⟨ih0, ih1⟩ := edits_Valid.mono_l k
 unfold edits_Valid.f
 repeat' first
   | (with_reducible exact ih0 _ _ _ _)
   | (with_reducible exact ih1 _ _ _ _ _ _ _)
   | (with_reducible exact LeO.refl _)
   | (with_reducible exact LeO.none _)
   | (with_reducible refine LeO.ite ?_ ?_)
   | (with_reducible refine LeO.bind ?_ (fun _ => ?_))
   | exact ih0 _ _ _ _
   | exact ih1 _ _ _ _ _ _ _
   | exact LeO.none _
   | refine LeO.ite ?_ ?_
   | refine LeO.bind ?_ (fun _ => ?_)
set_option maxHeartbeats 80000000 in
set_option maxRecDepth 100000 in
theorem edits_Valid.calls (k : Nat) (A0 : Option Addr) (c0 : Nat) (l0 : List (S53)) (a1 : Int) (a2 : Int) (r : Option Int) (w : World) (hr0 : Kd.C k53 w A0 l0.length l0) (hc0 : l0.length ≤ c0) (h : edits_Valid.f k l0 a1 a2 = some r) :
  Calls Tryd.prog 33 #[.slice A0 l0.length c0, .int .i64 a1, .int .i64 a2] w fun e w' => e = .returned (errW r) ∧ Below w.heap.size w w' := by
 have hu49 := Tryd.underlying53
 have hu25 := Tryd.underlying28
 have hu73 := Tryd.underlying57
 have HR0 := Aside0.mk hr0
 have HC0 := Aside0.mk hc0
 clear hr0 hc0
 have HB := Aside0.mk (Below.refl w.heap.size w)
 have H := h
 clear h
 unfold edits_Valid.f at H
 have HC4 := Aside0.mk H
 clear H
 go_enter Tryd.func33, Tryd.ntmps33
 try simp only [List.append_eq, List.cons_append, List.nil_append]
 go_upto_region 1 with (fail)
 repeat (go_quiet (fail); go_upto_region 1 with (fail))
 go_cut [24] (fun v24 wc => ∃ (kq : Nat) (x24_3 : Bool), v24 = .bool x24_3 ∧ Aside0 (edits_Valid.j0 kq l0 a1 a2 x24_3 = some r) ∧ Aside0 (kq ≤ k) ∧ Aside0 (Below w.heap.size w wc))
 case first =>
  have H := HC4.out
  clear HC4
  replace H := itL H
  rcases H with ⟨-, c5b0, H⟩ | ⟨-, c5b0, H⟩
  ·(first | rw [c5b0] | (simp only [i64_w, i32_w]; rw [c5b0]) | skip)
   have H' := Aside0.mk H
   clear H
   go_wp2
   repeat (go_quiet (fail); try go_wp2)
   go_meet
   case rel => exact ⟨_, (true), eqNow, H', ⟨by first | omega | exact Nat.le_refl _⟩, ⟨belNow⟩⟩
  (first | rw [c5b0] | (simp only [i64_w, i32_w]; rw [c5b0]) | skip)
  replace H := itG H
  rcases H with ⟨-, c6b0, H⟩ | ⟨-, c6b0, H⟩
  ·have H' := Aside0.mk H
   clear H
   go_wp2
   repeat (go_quiet (fail); try go_wp2)
   go_meet
   case rel => exact ⟨_, (true), eqNow, H', ⟨by first | omega | exact Nat.le_refl _⟩, ⟨belNow⟩⟩
  replace H := itL H
  rcases H with ⟨-, c7b0, H⟩ | ⟨-, c7b0, H⟩
  ·have H' := Aside0.mk H
   clear H
   go_wp2
   repeat (go_quiet (fail); try go_wp2)
   go_meet
   case rel => exact ⟨_, (true), eqNow, H', ⟨by first | omega | exact Nat.le_refl _⟩, ⟨belNow⟩⟩
  have H' := Aside0.mk H
  clear H
  go_wp2
  repeat (go_quiet (fail); try go_wp2)
  go_meet
  case rel => exact ⟨_, (decide (a2 > 4194304)), eqNow, H', ⟨by first | omega | exact Nat.le_refl _⟩, ⟨belNow⟩⟩
 case rest =>
  clear HC4
  obtain ⟨kq, x24_3, rfl, HA, HJ3, HB⟩ := hcut
  cases kq with
  | zero => exact absurd HA.out (by simp [edits_Valid.j0])
  | succ kj3 =>
   have H := HA.out
   clear HA
   simp only [edits_Valid.j0] at H
   replace H := itB H
   rcases H with ⟨rfl, H⟩ | ⟨rfl, H⟩
   ·obtain rfl := Option.some.inj H
    go_wp2
    repeat (go_quiet (fail); try go_wp2)
    go_ret
    exact ⟨eqEnd, belNow⟩
   have H' := Aside0.mk H
   clear H
   go_wp2
   repeat (go_quiet (fail); try go_wp2)
   go_loopg [7, 8, 28] kj3 (fun kq v7 v8 v28 w' => ∃ (x7_2 : Int) (x8_2 : Int) (x28_2 : Int), v7 = .int .i64 x7_2 ∧ v8 = .int .i64 x8_2 ∧ v28 = .int .i64 x28_2 ∧ Aside0 (edits_Valid.l0 kq a1 a2 x7_2 x8_2 l0 (l0.length : Int) x28_2 = some r) ∧ Aside0 (kq ≤ kj3) ∧ Aside0 (Below w.heap.size w w'))
   case atStart => exact ⟨(0), (0), (0), eqNow, eqNow, eqNow, H', ⟨Nat.le_refl _⟩, ⟨belNow⟩⟩
   case round =>
    clear H'
    obtain ⟨x7_2, x8_2, x28_2, rfl, rfl, rfl, HA, HK2, HB⟩ := hrel
    cases gk with
    | zero => exact absurd HA.out (by simp [edits_Valid.l0])
    | succ k2 =>
     have H := HA.out
     clear HA
     simp only [edits_Valid.l0] at H
     replace H := itLn H
     rcases H with ⟨-, c9b0, H⟩ | ⟨-, c9b0, H⟩
     ·replace H := itEn H
      rcases H with ⟨c68, c68b0, c68b1, H⟩ | ⟨-, c68b0, c68b1, H⟩
      ·obtain rfl := Option.some.inj H
       go_wp2
       repeat (go_quiet (fail); try go_wp2)
       go_ret
       exact ⟨eqEnd, belNow⟩
      obtain rfl := Option.some.inj H
      go_wp2
      repeat (go_quiet (fail); try go_wp2)
      go_ret
      exact ⟨eqEnd, belNow⟩
     replace H := itLn H
     rcases H with ⟨_, _, H⟩ | ⟨-, c10b0, H⟩
     ·cases H
     replace H := itLn H
     rcases H with ⟨_, _, H⟩ | ⟨-, c11b0, H⟩
     ·cases H
     replace H := itL H
     rcases H with ⟨-, c12b0, H⟩ | ⟨-, c12b0, H⟩
     ·obtain rfl := Option.some.inj H
      obtain ⟨ad235, rfl, hx235_0, hx235_1, hx235_2, hx235_3, p235, q235⟩ := atU_T53 HR0 HB x28_2
      go_wp2_with (((with_reducible refine gate_dst (N := 10) rfl ?_); refine boxEv (N := 10) #[.int .i64 0, .int .i64 0, .int .i64 0, .int .i64 0] 53 ?_; intro gb236 hg w13 hbox hb; have BK236 := Aside0.mk hbox; have GW236 := gwN HB hg; have GE236 := GW236; replace HB := hbD HB hb; clear hb hbox hg; obtain ⟨hcz14_0, hcz14_1, hcz14_2, hcz14_3, hfz14_0, hfz14_1, hfz14_2, hfz14_3⟩ := bcf4 (W := w13) BK236))
      repeat (go_quiet (fail); try go_wp2_with (fail))
      go_ret
      exact ⟨eqEnd, belPut⟩
     replace H := itL H
     rcases H with ⟨-, c15b0, H⟩ | ⟨-, c15b0, H⟩
     ·obtain rfl := Option.some.inj H
      obtain ⟨ad235, rfl, hx235_0, hx235_1, hx235_2, hx235_3, p235, q235⟩ := atU_T53 HR0 HB x28_2
      go_wp2_with (((with_reducible refine gate_dst (N := 10) rfl ?_); refine boxEv (N := 10) #[.int .i64 0, .int .i64 0, .int .i64 0, .int .i64 0] 53 ?_; intro gb236 hg w16 hbox hb; have BK236 := Aside0.mk hbox; have GW236 := gwN HB hg; have GE236 := GW236; replace HB := hbD HB hb; clear hb hbox hg; obtain ⟨hcz17_0, hcz17_1, hcz17_2, hcz17_3, hfz17_0, hfz17_1, hfz17_2, hfz17_3⟩ := bcf4 (W := w16) BK236))
      repeat (go_quiet (fail); try go_wp2_with (fail))
      go_ret
      exact ⟨eqEnd, belPut⟩
     replace H := itEn H
     rcases H with ⟨c18, c18b0, c18b1, H⟩ | ⟨-, c18b0, c18b1, H⟩
     ·replace H := itL H
      rcases H with ⟨-, c45b0, H⟩ | ⟨-, c45b0, H⟩
      ·obtain rfl := Option.some.inj H
       obtain ⟨ad235, rfl, hx235_0, hx235_1, hx235_2, hx235_3, p235, q235⟩ := atU_T53 HR0 HB x28_2
       go_wp2_with (((with_reducible refine gate_dst (N := 10) rfl ?_); refine boxEv (N := 10) #[.int .i64 0, .int .i64 0, .int .i64 0, .int .i64 0] 53 ?_; intro gb236 hg w46 hbox hb; have BK236 := Aside0.mk hbox; have GW236 := gwN HB hg; have GE236 := GW236; replace HB := hbD HB hb; clear hb hbox hg; obtain ⟨hcz47_0, hcz47_1, hcz47_2, hcz47_3, hfz47_0, hfz47_1, hfz47_2, hfz47_3⟩ := bcf4 (W := w46) BK236))
       repeat (go_quiet (fail); try go_wp2_with (fail))
       go_ret
       exact ⟨eqEnd, belPut⟩
      replace H := itG H
      rcases H with ⟨-, c48b0, H⟩ | ⟨-, c48b0, H⟩
      ·obtain rfl := Option.some.inj H
       obtain ⟨ad235, rfl, hx235_0, hx235_1, hx235_2, hx235_3, p235, q235⟩ := atU_T53 HR0 HB x28_2
       go_wp2_with (((with_reducible refine gate_dst (N := 10) rfl ?_); refine boxEv (N := 10) #[.int .i64 0, .int .i64 0, .int .i64 0, .int .i64 0] 53 ?_; intro gb236 hg w49 hbox hb; have BK236 := Aside0.mk hbox; have GW236 := gwN HB hg; have GE236 := GW236; replace HB := hbD HB hb; clear hb hbox hg; obtain ⟨hcz50_0, hcz50_1, hcz50_2, hcz50_3, hfz50_0, hfz50_1, hfz50_2, hfz50_3⟩ := bcf4 (W := w49) BK236))
       repeat (go_quiet (fail); try go_wp2_with (fail))
       go_ret
       exact ⟨eqEnd, belPut⟩
      replace H := itL H
      rcases H with ⟨-, c51b0, H⟩ | ⟨-, c51b0, H⟩
      ·obtain rfl := Option.some.inj H
       obtain ⟨ad235, rfl, hx235_0, hx235_1, hx235_2, hx235_3, p235, q235⟩ := atU_T53 HR0 HB x28_2
       go_wp2_with (((with_reducible refine gate_dst (N := 10) rfl ?_); refine boxEv (N := 10) #[.int .i64 0, .int .i64 0, .int .i64 0, .int .i64 0] 53 ?_; intro gb236 hg w52 hbox hb; have BK236 := Aside0.mk hbox; have GW236 := gwN HB hg; have GE236 := GW236; replace HB := hbD HB hb; clear hb hbox hg; obtain ⟨hcz53_0, hcz53_1, hcz53_2, hcz53_3, hfz53_0, hfz53_1, hfz53_2, hfz53_3⟩ := bcf4 (W := w52) BK236))
       repeat (go_quiet (fail); try go_wp2_with (fail))
       go_ret
       exact ⟨eqEnd, belPut⟩
      replace H := itG H
      rcases H with ⟨-, c54b0, H⟩ | ⟨-, c54b0, H⟩
      ·obtain rfl := Option.some.inj H
       obtain ⟨ad235, rfl, hx235_0, hx235_1, hx235_2, hx235_3, p235, q235⟩ := atU_T53 HR0 HB x28_2
       go_wp2_with (((with_reducible refine gate_dst (N := 10) rfl ?_); refine boxEv (N := 10) #[.int .i64 0, .int .i64 0, .int .i64 0, .int .i64 0] 53 ?_; intro gb236 hg w55 hbox hb; have BK236 := Aside0.mk hbox; have GW236 := gwN HB hg; have GE236 := GW236; replace HB := hbD HB hb; clear hb hbox hg; obtain ⟨hcz56_0, hcz56_1, hcz56_2, hcz56_3, hfz56_0, hfz56_1, hfz56_2, hfz56_3⟩ := bcf4 (W := w55) BK236))
       repeat (go_quiet (fail); try go_wp2_with (fail))
       go_ret
       exact ⟨eqEnd, belPut⟩
      replace H := itEn H
      rcases H with ⟨c57, c57b0, c57b1, H⟩ | ⟨-, c57b0, c57b1, H⟩
      ·obtain rfl := Option.some.inj H
       obtain ⟨ad235, rfl, hx235_0, hx235_1, hx235_2, hx235_3, p235, q235⟩ := atU_T53 HR0 HB x28_2
       go_wp2_with (((with_reducible refine gate_dst (N := 10) rfl ?_); refine boxEv (N := 10) #[.int .i64 0, .int .i64 0, .int .i64 0, .int .i64 0] 53 ?_; intro gb236 hg w66 hbox hb; have BK236 := Aside0.mk hbox; have GW236 := gwN HB hg; have GE236 := GW236; replace HB := hbD HB hb; clear hb hbox hg; obtain ⟨hcz67_0, hcz67_1, hcz67_2, hcz67_3, hfz67_0, hfz67_1, hfz67_2, hfz67_3⟩ := bcf4 (W := w66) BK236))
       repeat (go_quiet (fail); try go_wp2_with (fail))
       go_ret
       exact ⟨eqEnd, belPut⟩
      replace H := itG H
      rcases H with ⟨-, c58b0, H⟩ | ⟨-, c58b0, H⟩
      ·obtain rfl := Option.some.inj H
       obtain ⟨ad235, rfl, hx235_0, hx235_1, hx235_2, hx235_3, p235, q235⟩ := atU_T53 HR0 HB x28_2
       go_wp2_with (((with_reducible refine gate_dst (N := 10) rfl ?_); refine boxEv (N := 10) #[.int .i64 0, .int .i64 0, .int .i64 0, .int .i64 0] 53 ?_; intro gb236 hg w59 hbox hb; have BK236 := Aside0.mk hbox; have GW236 := gwN HB hg; have GE236 := GW236; replace HB := hbD HB hb; clear hb hbox hg; obtain ⟨hcz60_0, hcz60_1, hcz60_2, hcz60_3, hfz60_0, hfz60_1, hfz60_2, hfz60_3⟩ := bcf4 (W := w59) BK236))
       repeat (go_quiet (fail); try go_wp2_with (fail))
       go_ret
       exact ⟨eqEnd, belPut⟩
      replace H := itG H
      rcases H with ⟨-, c61b0, H⟩ | ⟨-, c61b0, H⟩
      ·obtain rfl := Option.some.inj H
       obtain ⟨ad235, rfl, hx235_0, hx235_1, hx235_2, hx235_3, p235, q235⟩ := atU_T53 HR0 HB x28_2
       go_wp2_with (((with_reducible refine gate_dst (N := 10) rfl ?_); refine boxEv (N := 10) #[.int .i64 0, .int .i64 0, .int .i64 0, .int .i64 0] 53 ?_; intro gb236 hg w62 hbox hb; have BK236 := Aside0.mk hbox; have GW236 := gwN HB hg; have GE236 := GW236; replace HB := hbD HB hb; clear hb hbox hg; obtain ⟨hcz63_0, hcz63_1, hcz63_2, hcz63_3, hfz63_0, hfz63_1, hfz63_2, hfz63_3⟩ := bcf4 (W := w62) BK236))
       repeat (go_quiet (fail); try go_wp2_with (fail))
       go_ret
       exact ⟨eqEnd, belPut⟩
      have H' := Aside0.mk H
      clear H
      obtain ⟨ad235, rfl, hx235_0, hx235_1, hx235_2, hx235_3, p235, q235⟩ := atU_T53 HR0 HB x28_2
      go_wp2_with (((with_reducible refine gate_dst (N := 10) rfl ?_); refine boxEv (N := 10) #[.int .i64 0, .int .i64 0, .int .i64 0, .int .i64 0] 53 ?_; intro gb236 hg w64 hbox hb; have BK236 := Aside0.mk hbox; have GW236 := gwN HB hg; have GE236 := GW236; replace HB := hbD HB hb; clear hb hbox hg; obtain ⟨hcz65_0, hcz65_1, hcz65_2, hcz65_3, hfz65_0, hfz65_1, hfz65_2, hfz65_3⟩ := bcf4 (W := w64) BK236))
      repeat (go_quiet (fail); try go_wp2_with (fail))
      go_roundg k2
      case measure => have := HJ3.out; have := HK2.out; omega
      case rel => exact ⟨(wrap64 (((rd_T53 l0 x28_2).f0) + ((rd_T53 l0 x28_2).f1))), (wrap64 (((rd_T53 l0 x28_2).f2) + ((rd_T53 l0 x28_2).f3))), (wrap64 (x28_2 + 1)), eqNow, eqNow, eqNow, H', ⟨by have := HJ3.out; have := HK2.out; omega⟩, ⟨belPut⟩⟩
     replace H := itE H
     rcases H with ⟨-, c19b0, c19b1, H⟩ | ⟨c19, c19b0, c19b1, H⟩
     ·obtain rfl := Option.some.inj H
      obtain ⟨ad235, rfl, hx235_0, hx235_1, hx235_2, hx235_3, p235, q235⟩ := atU_T53 HR0 HB x28_2
      go_wp2_with (((with_reducible refine gate_dst (N := 10) rfl ?_); refine boxEv (N := 10) #[.int .i64 0, .int .i64 0, .int .i64 0, .int .i64 0] 53 ?_; intro gb236 hg w20 hbox hb; have BK236 := Aside0.mk hbox; have GW236 := gwN HB hg; have GE236 := GW236; replace HB := hbD HB hb; clear hb hbox hg; obtain ⟨hcz21_0, hcz21_1, hcz21_2, hcz21_3, hfz21_0, hfz21_1, hfz21_2, hfz21_3⟩ := bcf4 (W := w20) BK236))
      repeat (go_quiet (fail); try go_wp2_with (fail))
      go_ret
      exact ⟨eqEnd, belPut⟩
     replace H := itL H
     rcases H with ⟨-, c22b0, H⟩ | ⟨-, c22b0, H⟩
     ·obtain rfl := Option.some.inj H
      obtain ⟨ad235, rfl, hx235_0, hx235_1, hx235_2, hx235_3, p235, q235⟩ := atU_T53 HR0 HB x28_2
      go_wp2_with (((with_reducible refine gate_dst (N := 10) rfl ?_); refine boxEv (N := 10) #[.int .i64 0, .int .i64 0, .int .i64 0, .int .i64 0] 53 ?_; intro gb236 hg w23 hbox hb; have BK236 := Aside0.mk hbox; have GW236 := gwN HB hg; have GE236 := GW236; replace HB := hbD HB hb; clear hb hbox hg; obtain ⟨hcz24_0, hcz24_1, hcz24_2, hcz24_3, hfz24_0, hfz24_1, hfz24_2, hfz24_3⟩ := bcf4 (W := w23) BK236))
      repeat (go_quiet (fail); try go_wp2_with (fail))
      go_ret
      exact ⟨eqEnd, belPut⟩
     replace H := itG H
     rcases H with ⟨-, c25b0, H⟩ | ⟨-, c25b0, H⟩
     ·obtain rfl := Option.some.inj H
      obtain ⟨ad235, rfl, hx235_0, hx235_1, hx235_2, hx235_3, p235, q235⟩ := atU_T53 HR0 HB x28_2
      go_wp2_with (((with_reducible refine gate_dst (N := 10) rfl ?_); refine boxEv (N := 10) #[.int .i64 0, .int .i64 0, .int .i64 0, .int .i64 0] 53 ?_; intro gb236 hg w26 hbox hb; have BK236 := Aside0.mk hbox; have GW236 := gwN HB hg; have GE236 := GW236; replace HB := hbD HB hb; clear hb hbox hg; obtain ⟨hcz27_0, hcz27_1, hcz27_2, hcz27_3, hfz27_0, hfz27_1, hfz27_2, hfz27_3⟩ := bcf4 (W := w26) BK236))
      repeat (go_quiet (fail); try go_wp2_with (fail))
      go_ret
      exact ⟨eqEnd, belPut⟩
     replace H := itL H
     rcases H with ⟨-, c28b0, H⟩ | ⟨-, c28b0, H⟩
     ·obtain rfl := Option.some.inj H
      obtain ⟨ad235, rfl, hx235_0, hx235_1, hx235_2, hx235_3, p235, q235⟩ := atU_T53 HR0 HB x28_2
      go_wp2_with (((with_reducible refine gate_dst (N := 10) rfl ?_); refine boxEv (N := 10) #[.int .i64 0, .int .i64 0, .int .i64 0, .int .i64 0] 53 ?_; intro gb236 hg w29 hbox hb; have BK236 := Aside0.mk hbox; have GW236 := gwN HB hg; have GE236 := GW236; replace HB := hbD HB hb; clear hb hbox hg; obtain ⟨hcz30_0, hcz30_1, hcz30_2, hcz30_3, hfz30_0, hfz30_1, hfz30_2, hfz30_3⟩ := bcf4 (W := w29) BK236))
      repeat (go_quiet (fail); try go_wp2_with (fail))
      go_ret
      exact ⟨eqEnd, belPut⟩
     replace H := itG H
     rcases H with ⟨-, c31b0, H⟩ | ⟨-, c31b0, H⟩
     ·obtain rfl := Option.some.inj H
      obtain ⟨ad235, rfl, hx235_0, hx235_1, hx235_2, hx235_3, p235, q235⟩ := atU_T53 HR0 HB x28_2
      go_wp2_with (((with_reducible refine gate_dst (N := 10) rfl ?_); refine boxEv (N := 10) #[.int .i64 0, .int .i64 0, .int .i64 0, .int .i64 0] 53 ?_; intro gb236 hg w32 hbox hb; have BK236 := Aside0.mk hbox; have GW236 := gwN HB hg; have GE236 := GW236; replace HB := hbD HB hb; clear hb hbox hg; obtain ⟨hcz33_0, hcz33_1, hcz33_2, hcz33_3, hfz33_0, hfz33_1, hfz33_2, hfz33_3⟩ := bcf4 (W := w32) BK236))
      repeat (go_quiet (fail); try go_wp2_with (fail))
      go_ret
      exact ⟨eqEnd, belPut⟩
     replace H := itEn H
     rcases H with ⟨c34, c34b0, c34b1, H⟩ | ⟨-, c34b0, c34b1, H⟩
     ·obtain rfl := Option.some.inj H
      obtain ⟨ad235, rfl, hx235_0, hx235_1, hx235_2, hx235_3, p235, q235⟩ := atU_T53 HR0 HB x28_2
      go_wp2_with (((with_reducible refine gate_dst (N := 10) rfl ?_); refine boxEv (N := 10) #[.int .i64 0, .int .i64 0, .int .i64 0, .int .i64 0] 53 ?_; intro gb236 hg w43 hbox hb; have BK236 := Aside0.mk hbox; have GW236 := gwN HB hg; have GE236 := GW236; replace HB := hbD HB hb; clear hb hbox hg; obtain ⟨hcz44_0, hcz44_1, hcz44_2, hcz44_3, hfz44_0, hfz44_1, hfz44_2, hfz44_3⟩ := bcf4 (W := w43) BK236))
      repeat (go_quiet (fail); try go_wp2_with (fail))
      go_ret
      exact ⟨eqEnd, belPut⟩
     replace H := itG H
     rcases H with ⟨-, c35b0, H⟩ | ⟨-, c35b0, H⟩
     ·obtain rfl := Option.some.inj H
      obtain ⟨ad235, rfl, hx235_0, hx235_1, hx235_2, hx235_3, p235, q235⟩ := atU_T53 HR0 HB x28_2
      go_wp2_with (((with_reducible refine gate_dst (N := 10) rfl ?_); refine boxEv (N := 10) #[.int .i64 0, .int .i64 0, .int .i64 0, .int .i64 0] 53 ?_; intro gb236 hg w36 hbox hb; have BK236 := Aside0.mk hbox; have GW236 := gwN HB hg; have GE236 := GW236; replace HB := hbD HB hb; clear hb hbox hg; obtain ⟨hcz37_0, hcz37_1, hcz37_2, hcz37_3, hfz37_0, hfz37_1, hfz37_2, hfz37_3⟩ := bcf4 (W := w36) BK236))
      repeat (go_quiet (fail); try go_wp2_with (fail))
      go_ret
      exact ⟨eqEnd, belPut⟩
     replace H := itG H
     rcases H with ⟨-, c38b0, H⟩ | ⟨-, c38b0, H⟩
     ·obtain rfl := Option.some.inj H
      obtain ⟨ad235, rfl, hx235_0, hx235_1, hx235_2, hx235_3, p235, q235⟩ := atU_T53 HR0 HB x28_2
      go_wp2_with (((with_reducible refine gate_dst (N := 10) rfl ?_); refine boxEv (N := 10) #[.int .i64 0, .int .i64 0, .int .i64 0, .int .i64 0] 53 ?_; intro gb236 hg w39 hbox hb; have BK236 := Aside0.mk hbox; have GW236 := gwN HB hg; have GE236 := GW236; replace HB := hbD HB hb; clear hb hbox hg; obtain ⟨hcz40_0, hcz40_1, hcz40_2, hcz40_3, hfz40_0, hfz40_1, hfz40_2, hfz40_3⟩ := bcf4 (W := w39) BK236))
      repeat (go_quiet (fail); try go_wp2_with (fail))
      go_ret
      exact ⟨eqEnd, belPut⟩
     have H' := Aside0.mk H
     clear H
     obtain ⟨ad235, rfl, hx235_0, hx235_1, hx235_2, hx235_3, p235, q235⟩ := atU_T53 HR0 HB x28_2
     go_wp2_with (((with_reducible refine gate_dst (N := 10) rfl ?_); refine boxEv (N := 10) #[.int .i64 0, .int .i64 0, .int .i64 0, .int .i64 0] 53 ?_; intro gb236 hg w41 hbox hb; have BK236 := Aside0.mk hbox; have GW236 := gwN HB hg; have GE236 := GW236; replace HB := hbD HB hb; clear hb hbox hg; obtain ⟨hcz42_0, hcz42_1, hcz42_2, hcz42_3, hfz42_0, hfz42_1, hfz42_2, hfz42_3⟩ := bcf4 (W := w41) BK236))
     repeat (go_quiet (fail); try go_wp2_with (fail))
     go_roundg k2
     case measure => have := HJ3.out; have := HK2.out; omega
     case rel => exact ⟨(wrap64 (((rd_T53 l0 x28_2).f0) + ((rd_T53 l0 x28_2).f1))), (wrap64 (((rd_T53 l0 x28_2).f2) + ((rd_T53 l0 x28_2).f3))), (wrap64 (x28_2 + 1)), eqNow, eqNow, eqNow, H', ⟨by have := HJ3.out; have := HK2.out; omega⟩, ⟨belPut⟩⟩
end Go.Proofs.YtecjoofjiockkaaDoor.Pp
