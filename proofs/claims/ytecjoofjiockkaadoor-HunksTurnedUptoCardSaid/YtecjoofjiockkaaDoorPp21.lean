/-
  Plain laws.
-/
import Derived.Test.YtecjoofjiockkaaDoorESt
import Derived.Test.YtecjoofjiockkaaDoorPp0
namespace Go.Proofs.YtecjoofjiockkaaDoor.Pp
open Go.RowKit Go.Proofs.YtecjoofjiockkaaDoor.Ext Go.Proofs.YtecjoofjiockkaaDoorW.PrintWords Go.Proofs.YtecjoofjiockkaaDoorW.PrintLast Go.Proofs.YtecjoofjiockkaaDoorW.PrintMore
attribute [local go_sem] max2_int min2_int max_two min_two max_three min_three max_four min_four
mutual
def selvageref06_Valid.j0 : Nat → List (S53) → Int → Int → Bool → Option (Int)
 | 0, _, _, _, _ => none
 | k + 1, x0, x1, x2, x24 => if x24 = true then (some 1) else (selvageref06_Valid.l0 k x0 x1 x2 0 0 0)
def selvageref06_Valid.l0 : Nat → List (S53) → Int → Int → Int → Int → Int → Option (Int)
 | 0, _, _, _, _, _, _ => none
 | k + 1, x0, x1, x2, x7, x8, x9 => if x9 < (x0.length : Int) then (if 0 ≤ x9 then (if ((rd_T53 x0 x9).f0) < x7 then (some 60) else (if ((rd_T53 x0 x9).f2) < x8 then (some 60) else (if ((rd_T53 x0 x9).f0) > x1 then (some 60) else (if ((rd_T53 x0 x9).f2) > x2 then (some 60) else (if (wrap64 (((rd_T53 x0 x9).f0) - x7)) = (wrap64 (((rd_T53 x0 x9).f2) - x8)) then (if ((rd_T53 x0 x9).f1) < 0 then (some 60) else (if ((rd_T53 x0 x9).f3) < 0 then (some 60) else (if ((rd_T53 x0 x9).f1) > (wrap64 (x1 - ((rd_T53 x0 x9).f0))) then (some 60) else (if ((rd_T53 x0 x9).f3) > (wrap64 (x2 - ((rd_T53 x0 x9).f2))) then (some 60) else (if ((rd_T53 x0 x9).f1) = 0 then (if ((rd_T53 x0 x9).f3) = 0 then (some 60) else (selvageref06_Valid.l0 k x0 x1 x2 (wrap64 (((rd_T53 x0 x9).f0) + ((rd_T53 x0 x9).f1))) (wrap64 (((rd_T53 x0 x9).f2) + ((rd_T53 x0 x9).f3))) (wrap64 (x9 + 1)))) else (selvageref06_Valid.l0 k x0 x1 x2 (wrap64 (((rd_T53 x0 x9).f0) + ((rd_T53 x0 x9).f1))) (wrap64 (((rd_T53 x0 x9).f2) + ((rd_T53 x0 x9).f3))) (wrap64 (x9 + 1)))))))) else (some 60)))))) else (none)) else (if (wrap64 (x1 - x7)) = (wrap64 (x2 - x8)) then (some 0) else (some 60))
end
def selvageref06_Valid.f (k : Nat) (l0 : List (S53)) (a1 : Int) (a2 : Int) : Option (Int) := if a1 < 0 then (selvageref06_Valid.j0 k l0 a1 a2 true) else (if a1 > 4194304 then (selvageref06_Valid.j0 k l0 a1 a2 true) else (if a2 < 0 then (selvageref06_Valid.j0 k l0 a1 a2 true) else (selvageref06_Valid.j0 k l0 a1 a2 (decide (a2 > 4194304)))))
set_option maxHeartbeats 80000000 in
set_option maxRecDepth 100000 in
theorem selvageref06_Valid.calls (k : Nat) (A0 : Option Addr) (c0 : Nat) (l0 : List (S53)) (a1 : Int) (a2 : Int) (r : Int) (w : World) (hr0 : Kd.C k53 w A0 l0.length l0) (hc0 : l0.length ≤ c0) (h : selvageref06_Valid.f k l0 a1 a2 = some r) :
  Calls Tryd.prog 27 #[.slice A0 l0.length c0, .int .i64 a1, .int .i64 a2] w fun e w' => e = .returned (.int .i64 r) ∧ Below w.heap.size w w' := by
 have hu49 := Tryd.underlying53
 have HR0 := Aside0.mk hr0
 have HC0 := Aside0.mk hc0
 clear hr0 hc0
 have HB := Aside0.mk (Below.refl w.heap.size w)
 have H := h
 clear h
 unfold selvageref06_Valid.f at H
 have HC4 := Aside0.mk H
 clear H
 go_enter Tryd.func27, Tryd.ntmps27
 try simp only [List.append_eq, List.cons_append, List.nil_append]
 go_upto_region 1 with (fail)
 go_cut [24] (fun v24 wc => ∃ (kq : Nat) (x24_3 : Bool), v24 = .bool x24_3 ∧ Aside0 (selvageref06_Valid.j0 kq l0 a1 a2 x24_3 = some r) ∧ Aside0 (kq ≤ k) ∧ Aside0 (Below w.heap.size w wc))
 case first =>
  have H := HC4.out
  clear HC4
  replace H := itL H
  rcases H with ⟨-, c5b0, H⟩ | ⟨-, c5b0, H⟩
  ·(first | rw [c5b0] | (simp only [i64_w, i32_w]; rw [c5b0]) | skip)
   have H' := Aside0.mk H
   clear H
   go_wp2
   go_meet
   case rel => exact ⟨_, (true), eqNow, H', ⟨by first | omega | exact Nat.le_refl _⟩, ⟨belNow⟩⟩
  (first | rw [c5b0] | (simp only [i64_w, i32_w]; rw [c5b0]) | skip)
  replace H := itG H
  rcases H with ⟨-, c6b0, H⟩ | ⟨-, c6b0, H⟩
  ·have H' := Aside0.mk H
   clear H
   go_wp2
   go_meet
   case rel => exact ⟨_, (true), eqNow, H', ⟨by first | omega | exact Nat.le_refl _⟩, ⟨belNow⟩⟩
  replace H := itL H
  rcases H with ⟨-, c7b0, H⟩ | ⟨-, c7b0, H⟩
  ·have H' := Aside0.mk H
   clear H
   go_wp2
   go_meet
   case rel => exact ⟨_, (true), eqNow, H', ⟨by first | omega | exact Nat.le_refl _⟩, ⟨belNow⟩⟩
  have H' := Aside0.mk H
  clear H
  go_wp2
  go_meet
  case rel => exact ⟨_, (decide (a2 > 4194304)), eqNow, H', ⟨by first | omega | exact Nat.le_refl _⟩, ⟨belNow⟩⟩
 case rest =>
  clear HC4
  obtain ⟨kq, x24_3, rfl, HA, HJ3, HB⟩ := hcut
  cases kq with
  | zero => exact absurd HA.out (by simp [selvageref06_Valid.j0])
  | succ kj3 =>
   have H := HA.out
   clear HA
   simp only [selvageref06_Valid.j0] at H
   replace H := itB H
   rcases H with ⟨rfl, H⟩ | ⟨rfl, H⟩
   ·obtain rfl := Option.some.inj H
    go_wp2
    go_ret
    exact ⟨eqEnd, belNow⟩
   have H' := Aside0.mk H
   clear H
   go_wp2
   go_loopg [7, 8, 9] kj3 (fun kq v7 v8 v9 w' => ∃ (x7_2 : Int) (x8_2 : Int) (x9_2 : Int), v7 = .int .i64 x7_2 ∧ v8 = .int .i64 x8_2 ∧ v9 = .int .i64 x9_2 ∧ Aside0 (selvageref06_Valid.l0 kq l0 a1 a2 x7_2 x8_2 x9_2 = some r) ∧ Aside0 (kq ≤ kj3) ∧ Aside0 (Below w.heap.size w w'))
   case atStart => exact ⟨(0), (0), (0), eqNow, eqNow, eqNow, H', ⟨Nat.le_refl _⟩, ⟨belNow⟩⟩
   case round =>
    clear H'
    obtain ⟨x7_2, x8_2, x9_2, rfl, rfl, rfl, HA, HK2, HB⟩ := hrel
    cases gk with
    | zero => exact absurd HA.out (by simp [selvageref06_Valid.l0])
    | succ k2 =>
     have H := HA.out
     clear HA
     simp only [selvageref06_Valid.l0] at H
     replace H := itLn H
     rcases H with ⟨-, c9b0, H⟩ | ⟨-, c9b0, H⟩
     ·replace H := itEn H
      rcases H with ⟨c46, c46b0, c46b1, H⟩ | ⟨-, c46b0, c46b1, H⟩
      ·obtain rfl := Option.some.inj H
       go_wp2
       go_ret
       exact ⟨eqEnd, belNow⟩
      obtain rfl := Option.some.inj H
      go_wp2
      go_ret
      exact ⟨eqEnd, belNow⟩
     replace H := itLn H
     rcases H with ⟨_, _, H⟩ | ⟨-, c10b0, H⟩
     ·cases H
     replace H := itL H
     rcases H with ⟨-, c11b0, H⟩ | ⟨-, c11b0, H⟩
     ·obtain rfl := Option.some.inj H
      obtain ⟨ad395, rfl, hx395_0, hx395_1, hx395_2, hx395_3, p395, q395⟩ := atU_T53 HR0 HB x9_2
      go_wp2_with (first | ((with_reducible refine gate_dst (N := 10) rfl ?_); refine boxEv (N := 10) #[.int .i64 0, .int .i64 0, .int .i64 0, .int .i64 0] 53 ?_; intro gb396 hg w12 hbox hb; have BK396 := Aside0.mk hbox; have GW396 := gwN HB hg; have GE396 := GW396; replace HB := hbD HB hb; clear hb hbox hg; obtain ⟨hcz13_0, hcz13_1, hcz13_2, hcz13_3, hfz13_0, hfz13_1, hfz13_2, hfz13_3⟩ := bcf4 (W := w12) BK396))
      go_ret
      exact ⟨eqEnd, belPut⟩
     replace H := itL H
     rcases H with ⟨-, c14b0, H⟩ | ⟨-, c14b0, H⟩
     ·obtain rfl := Option.some.inj H
      obtain ⟨ad395, rfl, hx395_0, hx395_1, hx395_2, hx395_3, p395, q395⟩ := atU_T53 HR0 HB x9_2
      go_wp2_with (first | ((with_reducible refine gate_dst (N := 10) rfl ?_); refine boxEv (N := 10) #[.int .i64 0, .int .i64 0, .int .i64 0, .int .i64 0] 53 ?_; intro gb396 hg w15 hbox hb; have BK396 := Aside0.mk hbox; have GW396 := gwN HB hg; have GE396 := GW396; replace HB := hbD HB hb; clear hb hbox hg; obtain ⟨hcz16_0, hcz16_1, hcz16_2, hcz16_3, hfz16_0, hfz16_1, hfz16_2, hfz16_3⟩ := bcf4 (W := w15) BK396))
      go_ret
      exact ⟨eqEnd, belPut⟩
     replace H := itG H
     rcases H with ⟨-, c17b0, H⟩ | ⟨-, c17b0, H⟩
     ·obtain rfl := Option.some.inj H
      obtain ⟨ad395, rfl, hx395_0, hx395_1, hx395_2, hx395_3, p395, q395⟩ := atU_T53 HR0 HB x9_2
      go_wp2_with (first | ((with_reducible refine gate_dst (N := 10) rfl ?_); refine boxEv (N := 10) #[.int .i64 0, .int .i64 0, .int .i64 0, .int .i64 0] 53 ?_; intro gb396 hg w18 hbox hb; have BK396 := Aside0.mk hbox; have GW396 := gwN HB hg; have GE396 := GW396; replace HB := hbD HB hb; clear hb hbox hg; obtain ⟨hcz19_0, hcz19_1, hcz19_2, hcz19_3, hfz19_0, hfz19_1, hfz19_2, hfz19_3⟩ := bcf4 (W := w18) BK396))
      go_ret
      exact ⟨eqEnd, belPut⟩
     replace H := itG H
     rcases H with ⟨-, c20b0, H⟩ | ⟨-, c20b0, H⟩
     ·obtain rfl := Option.some.inj H
      obtain ⟨ad395, rfl, hx395_0, hx395_1, hx395_2, hx395_3, p395, q395⟩ := atU_T53 HR0 HB x9_2
      go_wp2_with (first | ((with_reducible refine gate_dst (N := 10) rfl ?_); refine boxEv (N := 10) #[.int .i64 0, .int .i64 0, .int .i64 0, .int .i64 0] 53 ?_; intro gb396 hg w21 hbox hb; have BK396 := Aside0.mk hbox; have GW396 := gwN HB hg; have GE396 := GW396; replace HB := hbD HB hb; clear hb hbox hg; obtain ⟨hcz22_0, hcz22_1, hcz22_2, hcz22_3, hfz22_0, hfz22_1, hfz22_2, hfz22_3⟩ := bcf4 (W := w21) BK396))
      go_ret
      exact ⟨eqEnd, belPut⟩
     replace H := itEn H
     rcases H with ⟨c23, c23b0, c23b1, H⟩ | ⟨-, c23b0, c23b1, H⟩
     ·obtain rfl := Option.some.inj H
      obtain ⟨ad395, rfl, hx395_0, hx395_1, hx395_2, hx395_3, p395, q395⟩ := atU_T53 HR0 HB x9_2
      go_wp2_with (first | ((with_reducible refine gate_dst (N := 10) rfl ?_); refine boxEv (N := 10) #[.int .i64 0, .int .i64 0, .int .i64 0, .int .i64 0] 53 ?_; intro gb396 hg w44 hbox hb; have BK396 := Aside0.mk hbox; have GW396 := gwN HB hg; have GE396 := GW396; replace HB := hbD HB hb; clear hb hbox hg; obtain ⟨hcz45_0, hcz45_1, hcz45_2, hcz45_3, hfz45_0, hfz45_1, hfz45_2, hfz45_3⟩ := bcf4 (W := w44) BK396))
      go_ret
      exact ⟨eqEnd, belPut⟩
     replace H := itL H
     rcases H with ⟨-, c24b0, H⟩ | ⟨-, c24b0, H⟩
     ·obtain rfl := Option.some.inj H
      obtain ⟨ad395, rfl, hx395_0, hx395_1, hx395_2, hx395_3, p395, q395⟩ := atU_T53 HR0 HB x9_2
      go_wp2_with (first | ((with_reducible refine gate_dst (N := 10) rfl ?_); refine boxEv (N := 10) #[.int .i64 0, .int .i64 0, .int .i64 0, .int .i64 0] 53 ?_; intro gb396 hg w25 hbox hb; have BK396 := Aside0.mk hbox; have GW396 := gwN HB hg; have GE396 := GW396; replace HB := hbD HB hb; clear hb hbox hg; obtain ⟨hcz26_0, hcz26_1, hcz26_2, hcz26_3, hfz26_0, hfz26_1, hfz26_2, hfz26_3⟩ := bcf4 (W := w25) BK396))
      go_ret
      exact ⟨eqEnd, belPut⟩
     replace H := itL H
     rcases H with ⟨-, c27b0, H⟩ | ⟨-, c27b0, H⟩
     ·obtain rfl := Option.some.inj H
      obtain ⟨ad395, rfl, hx395_0, hx395_1, hx395_2, hx395_3, p395, q395⟩ := atU_T53 HR0 HB x9_2
      go_wp2_with (first | ((with_reducible refine gate_dst (N := 10) rfl ?_); refine boxEv (N := 10) #[.int .i64 0, .int .i64 0, .int .i64 0, .int .i64 0] 53 ?_; intro gb396 hg w28 hbox hb; have BK396 := Aside0.mk hbox; have GW396 := gwN HB hg; have GE396 := GW396; replace HB := hbD HB hb; clear hb hbox hg; obtain ⟨hcz29_0, hcz29_1, hcz29_2, hcz29_3, hfz29_0, hfz29_1, hfz29_2, hfz29_3⟩ := bcf4 (W := w28) BK396))
      go_ret
      exact ⟨eqEnd, belPut⟩
     replace H := itG H
     rcases H with ⟨-, c30b0, H⟩ | ⟨-, c30b0, H⟩
     ·obtain rfl := Option.some.inj H
      obtain ⟨ad395, rfl, hx395_0, hx395_1, hx395_2, hx395_3, p395, q395⟩ := atU_T53 HR0 HB x9_2
      go_wp2_with (first | ((with_reducible refine gate_dst (N := 10) rfl ?_); refine boxEv (N := 10) #[.int .i64 0, .int .i64 0, .int .i64 0, .int .i64 0] 53 ?_; intro gb396 hg w31 hbox hb; have BK396 := Aside0.mk hbox; have GW396 := gwN HB hg; have GE396 := GW396; replace HB := hbD HB hb; clear hb hbox hg; obtain ⟨hcz32_0, hcz32_1, hcz32_2, hcz32_3, hfz32_0, hfz32_1, hfz32_2, hfz32_3⟩ := bcf4 (W := w31) BK396))
      go_ret
      exact ⟨eqEnd, belPut⟩
     replace H := itG H
     rcases H with ⟨-, c33b0, H⟩ | ⟨-, c33b0, H⟩
     ·obtain rfl := Option.some.inj H
      obtain ⟨ad395, rfl, hx395_0, hx395_1, hx395_2, hx395_3, p395, q395⟩ := atU_T53 HR0 HB x9_2
      go_wp2_with (first | ((with_reducible refine gate_dst (N := 10) rfl ?_); refine boxEv (N := 10) #[.int .i64 0, .int .i64 0, .int .i64 0, .int .i64 0] 53 ?_; intro gb396 hg w34 hbox hb; have BK396 := Aside0.mk hbox; have GW396 := gwN HB hg; have GE396 := GW396; replace HB := hbD HB hb; clear hb hbox hg; obtain ⟨hcz35_0, hcz35_1, hcz35_2, hcz35_3, hfz35_0, hfz35_1, hfz35_2, hfz35_3⟩ := bcf4 (W := w34) BK396))
      go_ret
      exact ⟨eqEnd, belPut⟩
     replace H := itEn H
     rcases H with ⟨c36, c36b0, c36b1, H⟩ | ⟨-, c36b0, c36b1, H⟩
     ·have H' := Aside0.mk H
      clear H
      obtain ⟨ad395, rfl, hx395_0, hx395_1, hx395_2, hx395_3, p395, q395⟩ := atU_T53 HR0 HB x9_2
      go_wp2_with (first | ((with_reducible refine gate_dst (N := 10) rfl ?_); refine boxEv (N := 10) #[.int .i64 0, .int .i64 0, .int .i64 0, .int .i64 0] 53 ?_; intro gb396 hg w42 hbox hb; have BK396 := Aside0.mk hbox; have GW396 := gwN HB hg; have GE396 := GW396; replace HB := hbD HB hb; clear hb hbox hg; obtain ⟨hcz43_0, hcz43_1, hcz43_2, hcz43_3, hfz43_0, hfz43_1, hfz43_2, hfz43_3⟩ := bcf4 (W := w42) BK396))
      go_roundg k2
      case measure => have := HJ3.out; have := HK2.out; omega
      case rel => exact ⟨(wrap64 (((rd_T53 l0 x9_2).f0) + ((rd_T53 l0 x9_2).f1))), (wrap64 (((rd_T53 l0 x9_2).f2) + ((rd_T53 l0 x9_2).f3))), (wrap64 (x9_2 + 1)), eqNow, eqNow, eqNow, H', ⟨by have := HJ3.out; have := HK2.out; omega⟩, ⟨belPut⟩⟩
     replace H := itE H
     rcases H with ⟨-, c37b0, c37b1, H⟩ | ⟨c37, c37b0, c37b1, H⟩
     ·obtain rfl := Option.some.inj H
      obtain ⟨ad395, rfl, hx395_0, hx395_1, hx395_2, hx395_3, p395, q395⟩ := atU_T53 HR0 HB x9_2
      go_wp2_with (first | ((with_reducible refine gate_dst (N := 10) rfl ?_); refine boxEv (N := 10) #[.int .i64 0, .int .i64 0, .int .i64 0, .int .i64 0] 53 ?_; intro gb396 hg w38 hbox hb; have BK396 := Aside0.mk hbox; have GW396 := gwN HB hg; have GE396 := GW396; replace HB := hbD HB hb; clear hb hbox hg; obtain ⟨hcz39_0, hcz39_1, hcz39_2, hcz39_3, hfz39_0, hfz39_1, hfz39_2, hfz39_3⟩ := bcf4 (W := w38) BK396))
      go_ret
      exact ⟨eqEnd, belPut⟩
     have H' := Aside0.mk H
     clear H
     obtain ⟨ad395, rfl, hx395_0, hx395_1, hx395_2, hx395_3, p395, q395⟩ := atU_T53 HR0 HB x9_2
     go_wp2_with (first | ((with_reducible refine gate_dst (N := 10) rfl ?_); refine boxEv (N := 10) #[.int .i64 0, .int .i64 0, .int .i64 0, .int .i64 0] 53 ?_; intro gb396 hg w40 hbox hb; have BK396 := Aside0.mk hbox; have GW396 := gwN HB hg; have GE396 := GW396; replace HB := hbD HB hb; clear hb hbox hg; obtain ⟨hcz41_0, hcz41_1, hcz41_2, hcz41_3, hfz41_0, hfz41_1, hfz41_2, hfz41_3⟩ := bcf4 (W := w40) BK396))
     go_roundg k2
     case measure => have := HJ3.out; have := HK2.out; omega
     case rel => exact ⟨(wrap64 (((rd_T53 l0 x9_2).f0) + ((rd_T53 l0 x9_2).f1))), (wrap64 (((rd_T53 l0 x9_2).f2) + ((rd_T53 l0 x9_2).f3))), (wrap64 (x9_2 + 1)), eqNow, eqNow, eqNow, H', ⟨by have := HJ3.out; have := HK2.out; omega⟩, ⟨belPut⟩⟩
end Go.Proofs.YtecjoofjiockkaaDoor.Pp
namespace Go.Proofs.YtecjoofjiockkaaDoor.Pp
open Go.RowKit Go.Proofs.YtecjoofjiockkaaDoor.Ext Go.Proofs.YtecjoofjiockkaaDoorW.PrintWords Go.Proofs.YtecjoofjiockkaaDoorW.PrintLast Go.Proofs.YtecjoofjiockkaaDoorW.PrintMore
attribute [local go_sem] max2_int min2_int max_two min_two max_three min_three max_four min_four
mutual
def selvageref06_pairs.l0 : Nat → List (S53) → Int → List (S37) → Int → Int → Int → Option ((List (S37)))
 | 0, _, _, _, _, _, _ => none
 | k + 1, x0, x1, x5, x6, x7, x8 => if x8 ≤ (x0.length : Int) then (if x8 < (x0.length : Int) then (if 0 ≤ x8 then (selvageref06_pairs.j1 k x0 x1 x5 x6 x7 x8 ((rd_T53 x0 x8).f0)) else (none)) else (selvageref06_pairs.j1 k x0 x1 x5 x6 x7 x8 x1)) else (some x5)
def selvageref06_pairs.j1 : Nat → List (S53) → Int → List (S37) → Int → Int → Int → Int → Option ((List (S37)))
 | 0, _, _, _, _, _, _, _ => none
 | k + 1, x0, x1, x5, x6, x7, x8, x9 => selvageref06_pairs.l1 k x0 x1 x5 x6 x7 x8 x9
def selvageref06_pairs.l1 : Nat → List (S53) → Int → List (S37) → Int → Int → Int → Int → Option ((List (S37)))
 | 0, _, _, _, _, _, _, _ => none
 | k + 1, x0, x1, x5, x6, x7, x8, x9 => if x6 < x9 then (if x5.length < 8796093022208 then (selvageref06_pairs.l1 k x0 x1 (x5 ++ [(⟨x6, x7⟩ : S37)]) (wrap64 (x6 + 1)) (wrap64 (x7 + 1)) x8 x9) else (none)) else (if x8 < (x0.length : Int) then (if 0 ≤ x8 then (selvageref06_pairs.l0 k x0 x1 x5 (wrap64 (((rd_T53 x0 x8).f0) + ((rd_T53 x0 x8).f1))) (wrap64 (((rd_T53 x0 x8).f2) + ((rd_T53 x0 x8).f3))) (wrap64 (x8 + 1))) else (none)) else (selvageref06_pairs.l0 k x0 x1 x5 x6 x7 (wrap64 (x8 + 1))))
end
def selvageref06_pairs.f (k : Nat) (l0 : List (S53)) (a1 : Int) : Option ((List (S37))) := selvageref06_pairs.l0 k l0 a1 ([] : List (S37)) 0 0 0
set_option maxHeartbeats 80000000 in
set_option maxRecDepth 100000 in
theorem selvageref06_pairs.calls (k : Nat) (A0 : Option Addr) (c0 : Nat) (l0 : List (S53)) (a1 : Int) (r : List (S37)) (w : World) (hr0 : Kd.C k53 w A0 l0.length l0) (hc0 : l0.length ≤ c0) (h : selvageref06_pairs.f k l0 a1 = some r) :
  Calls Tryd.prog 28 #[.slice A0 l0.length c0, .int .i64 a1] w fun e w' => ∃ v0_ : Value, e = .returned (v0_) ∧ Kd.R k37 37 w' w.heap.size (fun _ => True) v0_ r ∧ Below w.heap.size w w' := by
 have hu94 := Tryd.underlying37
 have HR0 := Aside0.mk hr0
 have HC0 := Aside0.mk hc0
 clear hr0 hc0
 have HB := Aside0.mk (Below.refl w.heap.size w)
 have H := h
 clear h
 unfold selvageref06_pairs.f at H
 have H' := Aside0.mk H
 clear H
 go_enter Tryd.func28, Tryd.ntmps28
 try simp only [List.append_eq, List.cons_append, List.nil_append]
 go_wp2
 repeat (go_quiet (fail); try go_wp2)
 go_loopg [5, 6, 7, 8] k (fun kq v5 v6 v7 v8 w' => ∃ (x5_1 : List (S37)) (x6_1 : Int) (x7_1 : Int) (x8_1 : Int), v6 = .int .i64 x6_1 ∧ v7 = .int .i64 x7_1 ∧ v8 = .int .i64 x8_1 ∧ Aside0 (selvageref06_pairs.l0 kq l0 a1 x5_1 x6_1 x7_1 x8_1 = some r) ∧ Aside0 (kq ≤ k) ∧ Aside0 (Kd.R k37 37 w' w.heap.size (fun _ => True) v5 x5_1) ∧ Aside0 (Below w.heap.size w w'))
 case atStart => exact ⟨(([] : List (S37))), (0), (0), (0), eqNow, eqNow, eqNow, H', ⟨Nat.le_refl _⟩, ⟨by first | exact Kd.R_nil _ _ _ _ _ | exact Kd.N_nil _ _ _ _ _ | exact Kd.V_nil _ _ _ _ _ | exact Kd.Q_nil _ _ _ _ _ | exact Kd.S_nil _ _ _ _ _⟩, ⟨belNow⟩⟩
 case round =>
  clear H'
  obtain ⟨x5_1, x6_1, x7_1, x8_1, rfl, rfl, rfl, HA, HK1, HO_5, HB⟩ := hrel
  cases gk with
  | zero => exact absurd HA.out (by simp [selvageref06_pairs.l0])
  | succ k1 =>
   have H := HA.out
   clear HA
   simp only [selvageref06_pairs.l0] at H
   replace H := itLn H
   rcases H with ⟨-, c3b0, H⟩ | ⟨-, c3b0, H⟩
   ·obtain rfl := Option.some.inj H
    go_wp2
    repeat (go_quiet (fail); try go_wp2)
    go_ret
    exact ⟨_, eqEnd, by (with_reducible repeat (first | apply Kd.R_alloc | apply Kd.R_drewN | apply Kd.R_drew)); exact HO_5.out, belNow⟩
   have HC4 := Aside0.mk H
   clear H
   go_upto_if 20 with (fail)
   repeat (go_quiet (fail); go_upto_if 20 with (fail))
   go_cut [9] (fun v9 wc => ∃ (kq : Nat) (x9_3 : Int), v9 = .int .i64 x9_3 ∧ Aside0 (selvageref06_pairs.j1 kq l0 a1 x5_1 x6_1 x7_1 x8_1 x9_3 = some r) ∧ Aside0 (kq ≤ k1) ∧ Aside0 (Kd.R k37 37 wc w.heap.size (fun _ => True) u5 x5_1) ∧ Aside0 (Below w.heap.size w wc))
   case first =>
    have H := HC4.out
    clear HC4
    replace H := itLn H
    rcases H with ⟨-, c5b0, H⟩ | ⟨-, c5b0, H⟩
    ·(first | rw [c5b0] | (simp only [i64_w, i32_w]; rw [c5b0]) | skip)
     have H' := Aside0.mk H
     clear H
     go_wp2
     repeat (go_quiet (fail); try go_wp2)
     go_meet
     case rel => exact ⟨_, (a1), eqNow, H', ⟨by have := HK1.out; first | omega | exact Nat.le_refl _⟩, ⟨kdMv HO_5⟩, ⟨belNow⟩⟩
    (first | rw [c5b0] | (simp only [i64_w, i32_w]; rw [c5b0]) | skip)
    replace H := itLn H
    rcases H with ⟨_, _, H⟩ | ⟨-, c6b0, H⟩
    ·cases H
    have H' := Aside0.mk H
    clear H
    obtain ⟨ad411, rfl, hx411_0, hx411_1, hx411_2, hx411_3, p411, q411⟩ := atU_T53 HR0 HB x8_1
    go_wp2
    repeat (go_quiet (fail); try go_wp2)
    go_meet
    case rel => exact ⟨_, ((rd_T53 l0 x8_1).f0), eqNow, H', ⟨by have := HK1.out; first | omega | exact Nat.le_refl _⟩, ⟨kdMv HO_5⟩, ⟨belNow⟩⟩
   case rest =>
    clear HC4
    try clear c3b0
    obtain ⟨kq, x9_3, rfl, HA, HJ3, HO_5, HB⟩ := hcut
    cases kq with
    | zero => exact absurd HA.out (by simp [selvageref06_pairs.j1])
    | succ kj3 =>
     have H := HA.out
     clear HA
     simp only [selvageref06_pairs.j1] at H
     have H' := Aside0.mk H
     clear H
     go_wp2
     repeat (go_quiet (fail); try go_wp2)
     go_loopg [5, 6, 7] kj3 (fun kq v5 v6 v7 w' => ∃ (x5_3 : List (S37)) (x6_3 : Int) (x7_3 : Int), v6 = .int .i64 x6_3 ∧ v7 = .int .i64 x7_3 ∧ Aside0 (selvageref06_pairs.l1 kq l0 a1 x5_3 x6_3 x7_3 x8_1 x9_3 = some r) ∧ Aside0 (kq ≤ kj3) ∧ Aside0 (Kd.R k37 37 w' w.heap.size (fun _ => True) v5 x5_3) ∧ Aside0 (Below w.heap.size w w'))
     case atStart => exact ⟨(x5_1), (x6_1), (x7_1), eqNow, eqNow, H', ⟨Nat.le_refl _⟩, ⟨kdMv HO_5⟩, ⟨belNow⟩⟩
     case round =>
      clear H'
      try clear c3b0
      obtain ⟨x5_3, x6_3, x7_3, rfl, rfl, HA, HK3, HO_5, HB⟩ := hrel
      cases gk with
      | zero => exact absurd HA.out (by simp [selvageref06_pairs.l1])
      | succ k3 =>
       have H := HA.out
       clear HA
       simp only [selvageref06_pairs.l1] at H
       replace H := itLn H
       rcases H with ⟨-, c7b0, H⟩ | ⟨-, c7b0, H⟩
       ·replace H := itLn H
        rcases H with ⟨-, c10b0, H⟩ | ⟨-, c10b0, H⟩
        ·have H' := Aside0.mk H
         clear H
         go_wp2
         repeat (go_quiet (fail); try go_wp2)
         go_roundg k3
         case measure => have := HK1.out; have := HJ3.out; have := HK3.out; omega
         case rel => exact ⟨(x5_3), (x6_3), (x7_3), (wrap64 (x8_1 + 1)), eqNow, eqNow, eqNow, H', ⟨by have := HK1.out; have := HJ3.out; have := HK3.out; omega⟩, ⟨kdMv HO_5⟩, ⟨belNow⟩⟩
        replace H := itLn H
        rcases H with ⟨_, _, H⟩ | ⟨-, c11b0, H⟩
        ·cases H
        have H' := Aside0.mk H
        clear H
        obtain ⟨ad415, rfl, hx415_0, hx415_1, hx415_2, hx415_3, p415, q415⟩ := atU_T53 HR0 HB x8_1
        have p416 : 0 ≤ (x8_1 : Int) := ofDec
        have q416 : x8_1 < (l0.length : Int) := ofDec
        obtain ⟨ad416, e416, hx416_0, hx416_1, hx416_2, hx416_3⟩ := at_T53 HR0.out x8_1 p416 q416
        obtain rfl : ad415 = ad416 := (by injection e416)
        replace hx416_0 := cUp HB.out hx416_0
        replace hx416_1 := cUp HB.out hx416_1
        replace hx416_2 := cUp HB.out hx416_2
        replace hx416_3 := cUp HB.out hx416_3
        replace p416 := eq_true p416
        replace q416 := eq_true q416
        have p417 : 0 ≤ (x8_1 : Int) := ofDec
        have q417 : x8_1 < (l0.length : Int) := ofDec
        obtain ⟨ad417, e417, hx417_0, hx417_1, hx417_2, hx417_3⟩ := at_T53 HR0.out x8_1 p417 q417
        obtain rfl : ad415 = ad417 := (by injection e417)
        replace hx417_0 := cUp HB.out hx417_0
        replace hx417_1 := cUp HB.out hx417_1
        replace hx417_2 := cUp HB.out hx417_2
        replace hx417_3 := cUp HB.out hx417_3
        replace p417 := eq_true p417
        replace q417 := eq_true q417
        have p418 : 0 ≤ (x8_1 : Int) := ofDec
        have q418 : x8_1 < (l0.length : Int) := ofDec
        obtain ⟨ad418, e418, hx418_0, hx418_1, hx418_2, hx418_3⟩ := at_T53 HR0.out x8_1 p418 q418
        obtain rfl : ad415 = ad418 := (by injection e418)
        replace hx418_0 := cUp HB.out hx418_0
        replace hx418_1 := cUp HB.out hx418_1
        replace hx418_2 := cUp HB.out hx418_2
        replace hx418_3 := cUp HB.out hx418_3
        replace p418 := eq_true p418
        replace q418 := eq_true q418
        go_wp2
        repeat (go_quiet (fail); try go_wp2)
        go_roundg k3
        case measure => have := HK1.out; have := HJ3.out; have := HK3.out; omega
        case rel => exact ⟨(x5_3), (wrap64 (((rd_T53 l0 x8_1).f0) + ((rd_T53 l0 x8_1).f1))), (wrap64 (((rd_T53 l0 x8_1).f2) + ((rd_T53 l0 x8_1).f3))), (wrap64 (x8_1 + 1)), eqNow, eqNow, eqNow, H', ⟨by have := HK1.out; have := HJ3.out; have := HK3.out; omega⟩, ⟨kdMv HO_5⟩, ⟨belNow⟩⟩
       replace H := itLn H
       rcases H with ⟨_, _, H⟩ | ⟨c8, -, H⟩
       ·cases H
       have LMc8 := Aside0.mk c8
       clear c8
       obtain ⟨y412, hy412⟩ : ∃ y_ : List (S37), y_ = (x5_3 ++ [(⟨x6_3, x7_3⟩ : S37)]) := ⟨_, rfl⟩
       replace H : (selvageref06_pairs.l1 k3 l0 a1 y412 (wrap64 (x6_3 + 1)) (wrap64 (x7_3 + 1)) x8_1 x9_3) = some r := by first | (rw [hy412]; with_reducible exact H) | (have H2_ := (Option.bind_some _ _).symm.trans H; rw [hy412]; with_reducible exact H2_) | (have H2_ := (Option.bind_some _ _).symm.trans H; with_reducible exact H2_) | with_reducible exact H | (rw [hy412]; exact H) | exact H
       have Ny412 := Aside0.mk hy412
       clear hy412
       have H' := Aside0.mk H
       clear H
       go_wp2_with (((with_reducible refine gate_builtin (b := .append) (xs := #[.tmp 29, .tmp 33]) rfl ?_); at_builtin; refine Kd.R_append k37 (w0 := w) w.heap.size rfl (.tmp 29) (.tmp 33) 34 37 (.agg #[(.int .i64 0), (.int .i64 0)]) 16 rfl Tryd.underlying34 info37 rfl (by decide) (by omega) u5 x5_3 (⟨x6_3, x7_3⟩ : S37) [.int .i64 x6_3, .int .i64 x7_3] (fun _ => True) (fun _ => False) rfl rfl ?aP (fun _ hk => hk.elim) ?aF ?aO ?aB ?aS ?aL ?_; (case aP => exact k37_mkM _ _ _ (⟨x6_3, x7_3⟩ : S37)); (case aB => exact belNow); (case aF => exact (fun _ _ => trivial)); (case aO => exact (kdUp HO_5.out)); (case aS => exact (below_size belNow)); (case aL => have := LMc8.out; omega); intro v413 w9 ho hb hg hat; rw [← Ny412.out] at ho; replace HB := Aside0.mk hb; have HO414 := Aside0.mk (ho); clear HO_5; clear ho hb hg hat))
       repeat (go_quiet (fail); try go_wp2_with (fail))
       go_roundg k3
       case measure => have := HK1.out; have := HJ3.out; have := HK3.out; omega
       case rel => exact ⟨(y412), (wrap64 (x6_3 + 1)), (wrap64 (x7_3 + 1)), eqNow, eqNow, H', ⟨by have := HK1.out; have := HJ3.out; have := HK3.out; omega⟩, ⟨kdMv HO414⟩, ⟨belNow⟩⟩
end Go.Proofs.YtecjoofjiockkaaDoor.Pp
