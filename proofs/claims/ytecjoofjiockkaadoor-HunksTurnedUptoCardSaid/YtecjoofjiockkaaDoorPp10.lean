import Derived.Test.YtecjoofjiockkaaDoorESt
import Derived.Test.YtecjoofjiockkaaDoorPp0
import Derived.Test.YtecjoofjiockkaaDoorPp2
namespace Go.Proofs.YtecjoofjiockkaaDoor.Pp
open Go.RowKit Go.Proofs.YtecjoofjiockkaaDoor.Ext Go.Proofs.YtecjoofjiockkaaDoorW.PrintWords Go.Proofs.YtecjoofjiockkaaDoorW.PrintLast Go.Proofs.YtecjoofjiockkaaDoorW.PrintMore
attribute [local go_sem] max2_int min2_int max_two min_two max_three min_three max_four min_four
attribute [local go_sem high] eqA56
mutual
def selvagelaw10_same.j0 : Nat → Bool → Int → Int → Int → Int → ByteArray → List (S56) → Int → Int → Int → Int → ByteArray → List (S56) → Option (Bool)
 | 0, _, _, _, _, _, _, _, _, _, _, _, _, _ => none
 | k + 1, x47, x227000, x227001, x227002, x227003, x227004, x227005, x228000, x228001, x228002, x228003, x228004, x228005 => if x47 = true then (none) else (selvagelaw10_same.l0 k 0 x227000 x227001 x227002 x227003 x227004 x227005 x228000 x228001 x228002 x228003 x228004 x228005)
def selvagelaw10_same.l0 : Nat → Int → Int → Int → Int → Int → ByteArray → List (S56) → Int → Int → Int → Int → ByteArray → List (S56) → Option (Bool)
 | 0, _, _, _, _, _, _, _, _, _, _, _, _, _ => none
 | k + 1, x5, x227000, x227001, x227002, x227003, x227004, x227005, x228000, x228001, x228002, x228003, x228004, x228005 => if x5 < (x227005.length : Int) then (if 0 ≤ x5 then (if x5 < (x228005.length : Int) then (if (!(((rd_T56 x227005 x5).f0) == ((rd_T56 x228005 x5).f0)) || (!((((rd_T56 x227005 x5).f1).toList) == (((rd_T56 x228005 x5).f1).toList)))) = true then (none) else (selvagelaw10_same.l0 k (wrap64 (x5 + 1)) x227000 x227001 x227002 x227003 x227004 x227005 x228000 x228001 x228002 x228003 x228004 x228005)) else (none)) else (none)) else (some true)
end
def selvagelaw10_same.f (k : Nat) (a0_0 : Int) (a0_1 : Int) (a0_2 : Int) (a0_3 : Int) (a0_4 : ByteArray) (l0_5 : List (S56)) (a1_0 : Int) (a1_1 : Int) (a1_2 : Int) (a1_3 : Int) (a1_4 : ByteArray) (l1_5 : List (S56)) : Option (Bool) := if a0_0 = a1_0 then (if a0_1 = a1_1 then (if a0_2 = a1_2 then (if a0_3 = a1_3 then (if a0_4.toList = a1_4.toList then (selvagelaw10_same.j0 k ((l0_5.length : Int) != (l1_5.length : Int)) a0_0 a0_1 a0_2 a0_3 a0_4 l0_5 a1_0 a1_1 a1_2 a1_3 a1_4 l1_5) else (selvagelaw10_same.j0 k true a0_0 a0_1 a0_2 a0_3 a0_4 l0_5 a1_0 a1_1 a1_2 a1_3 a1_4 l1_5)) else (selvagelaw10_same.j0 k true a0_0 a0_1 a0_2 a0_3 a0_4 l0_5 a1_0 a1_1 a1_2 a1_3 a1_4 l1_5)) else (selvagelaw10_same.j0 k true a0_0 a0_1 a0_2 a0_3 a0_4 l0_5 a1_0 a1_1 a1_2 a1_3 a1_4 l1_5)) else (selvagelaw10_same.j0 k true a0_0 a0_1 a0_2 a0_3 a0_4 l0_5 a1_0 a1_1 a1_2 a1_3 a1_4 l1_5)) else (selvagelaw10_same.j0 k true a0_0 a0_1 a0_2 a0_3 a0_4 l0_5 a1_0 a1_1 a1_2 a1_3 a1_4 l1_5)
theorem selvagelaw10_same.j0_dead : ∀ k y1 y2 y3 y4 y5 y6 y7 y8 y9 y10 y11 y12, selvagelaw10_same.j0 k true y1 y2 y3 y4 y5 y6 y7 y8 y9 y10 y11 y12 = none
 | 0, _, _, _, _, _, _, _, _, _, _, _, _ => rfl
 | k + 1, _, _, _, _, _, _, _, _, _, _, _, _ => by simp [selvagelaw10_same.j0]
set_option maxHeartbeats 80000000 in
set_option maxRecDepth 100000 in
theorem selvagelaw10_same.calls (k : Nat) (a0_0 : Int) (a0_1 : Int) (a0_2 : Int) (a0_3 : Int) (a0_4 : ByteArray) (A0_5 : Option Addr) (c0_5 : Nat) (l0_5 : List (S56)) (a1_0 : Int) (a1_1 : Int) (a1_2 : Int) (a1_3 : Int) (a1_4 : ByteArray) (A1_5 : Option Addr) (c1_5 : Nat) (l1_5 : List (S56)) (r : Bool) (w : World) (hr0_5 : Kd.C k56 w A0_5 l0_5.length l0_5) (hc0_5 : l0_5.length ≤ c0_5) (hr1_5 : Kd.C k56 w A1_5 l1_5.length l1_5) (hc1_5 : l1_5.length ≤ c1_5) (h : selvagelaw10_same.f k a0_0 a0_1 a0_2 a0_3 a0_4 l0_5 a1_0 a1_1 a1_2 a1_3 a1_4 l1_5 = some r) :
  Calls Tryd.prog 11 #[.agg #[.int .i64 a0_0, .int .i64 a0_1, .int .i64 a0_2, .int .i64 a0_3, .string a0_4, .slice A0_5 l0_5.length c0_5], .agg #[.int .i64 a1_0, .int .i64 a1_1, .int .i64 a1_2, .int .i64 a1_3, .string a1_4, .slice A1_5 l1_5.length c1_5]] w fun e w' => e = .returned (.bool r) ∧ Below w.heap.size w w' := by
 have hu29 := Tryd.underlying41
 have hu53 := Tryd.underlying56
 have HR0_5 := Aside0.mk hr0_5
 have HC0_5 := Aside0.mk hc0_5
 clear hr0_5 hc0_5
 have HR1_5 := Aside0.mk hr1_5
 have HC1_5 := Aside0.mk hc1_5
 clear hr1_5 hc1_5
 have HB := Aside0.mk (Below.refl w.heap.size w)
 have H := h
 clear h
 unfold selvagelaw10_same.f at H
 have HC3 := Aside0.mk H
 clear H
 go_enter Tryd.func11, Tryd.ntmps11
 try simp only [List.append_eq, List.cons_append, List.nil_append]
 go_upto_region 1 with (first | ((with_reducible refine gate_dst (N := 2) rfl ?_); (try (refine gate_guard (by rfl) ?_; dsimp only)); refine boxEv (N := 2) #[.int .i64 a0_0, .int .i64 a0_1, .int .i64 a0_2, .int .i64 a0_3, .string a0_4, .slice A0_5 l0_5.length c0_5] 41 ?_; intro gb226 hg w4 hbox hb; have BK226 := Aside0.mk hbox; have GW226 := gwN HB hg; have GE226 := GW226; replace HB := hbD HB hb; clear hb hbox hg) | ((with_reducible refine gate_dst (N := 3) rfl ?_); (try (refine gate_guard (by rfl) ?_; dsimp only)); refine boxEv (N := 3) #[.int .i64 a1_0, .int .i64 a1_1, .int .i64 a1_2, .int .i64 a1_3, .string a1_4, .slice A1_5 l1_5.length c1_5] 41 ?_; intro gb227 hg w5 hbox hb; have BK227 := Aside0.mk hbox; have GW227 := gwN HB hg; have GE227 := GW227; replace HB := hbD HB hb; have NB226_227 := nbL BK226 hg; have NB227_226 := nbR BK226 hg; replace BK226 := bkD BK226 hb; clear hb hbox hg))
 repeat (go_quiet (fail); go_upto_region 1 with (first | ((with_reducible refine gate_dst (N := 2) rfl ?_); (try (refine gate_guard (by rfl) ?_; dsimp only)); refine boxEv (N := 2) #[.int .i64 a0_0, .int .i64 a0_1, .int .i64 a0_2, .int .i64 a0_3, .string a0_4, .slice A0_5 l0_5.length c0_5] 41 ?_; intro gb226 hg w4 hbox hb; have BK226 := Aside0.mk hbox; have GW226 := gwN HB hg; have GE226 := GW226; replace HB := hbD HB hb; clear hb hbox hg) | ((with_reducible refine gate_dst (N := 3) rfl ?_); (try (refine gate_guard (by rfl) ?_; dsimp only)); refine boxEv (N := 3) #[.int .i64 a1_0, .int .i64 a1_1, .int .i64 a1_2, .int .i64 a1_3, .string a1_4, .slice A1_5 l1_5.length c1_5] 41 ?_; intro gb227 hg w5 hbox hb; have BK227 := Aside0.mk hbox; have GW227 := gwN HB hg; have GE227 := GW227; replace HB := hbD HB hb; have NB226_227 := nbL BK226 hg; have NB227_226 := nbR BK226 hg; replace BK226 := bkD BK226 hb; clear hb hbox hg)))
 (try simp only [Act.put, List.setIfInBounds_toArray, List.set_cons_zero, List.set_cons_succ])
 go_cut [47] (fun v47 wc => ∃ (kq : Nat) (x47_2 : Bool), v47 = .bool x47_2 ∧ Aside0 (selvagelaw10_same.j0 kq x47_2 a0_0 a0_1 a0_2 a0_3 a0_4 l0_5 a1_0 a1_1 a1_2 a1_3 a1_4 l1_5 = some r) ∧ Aside0 (kq ≤ k) ∧ Aside0 (wc.heap[gb226]? = some (.cells #[.int .i64 a0_0, .int .i64 a0_1, .int .i64 a0_2, .int .i64 a0_3, .string a0_4, (.slice A0_5 l0_5.length c0_5)] 41 (0, 0))) ∧ Aside0 (wc.heap[gb227]? = some (.cells #[.int .i64 a1_0, .int .i64 a1_1, .int .i64 a1_2, .int .i64 a1_3, .string a1_4, (.slice A1_5 l1_5.length c1_5)] 41 (0, 0))) ∧ Aside0 (Below w.heap.size w wc))
 case first =>
  have H := HC3.out
  clear HC3
  replace H := itEn H
  rcases H with ⟨c6, -, -, H⟩ | ⟨-, c6b0, c6b1, H⟩
  ·first | exact absurd H (by simp) | (rw [selvagelaw10_same.j0_dead] at H; exact absurd H (by simp))
  (first | rw [c6b0] | (simp only [i64_w, i32_w]; rw [c6b0]) | skip)
  replace H := itEn H
  rcases H with ⟨c7, -, -, H⟩ | ⟨-, c7b0, c7b1, H⟩
  ·first | exact absurd H (by simp) | (rw [selvagelaw10_same.j0_dead] at H; exact absurd H (by simp))
  replace H := itEn H
  rcases H with ⟨c8, -, -, H⟩ | ⟨-, c8b0, c8b1, H⟩
  ·first | exact absurd H (by simp) | (rw [selvagelaw10_same.j0_dead] at H; exact absurd H (by simp))
  replace H := itEn H
  rcases H with ⟨c9, -, -, H⟩ | ⟨-, c9b0, c9b1, H⟩
  ·first | exact absurd H (by simp) | (rw [selvagelaw10_same.j0_dead] at H; exact absurd H (by simp))
  replace H := itEn H
  rcases H with ⟨c10, -, -, H⟩ | ⟨-, c10b0, c10b1, H⟩
  ·first | exact absurd H (by simp) | (rw [selvagelaw10_same.j0_dead] at H; exact absurd H (by simp))
  have H' := Aside0.mk H
  clear H
  have hnb11 := NB226_227.out
  have hnc11 := NB227_226.out
  obtain ⟨hcz12_0, hcz12_1, hcz12_2, hcz12_3, hcz12_4, hcz12_5, hfz12_0, hfz12_1, hfz12_2, hfz12_3, hfz12_4, hfz12_5⟩ := bcf6 (W := w5) BK226
  obtain ⟨hcz13_0, hcz13_1, hcz13_2, hcz13_3, hcz13_4, hcz13_5, hfz13_0, hfz13_1, hfz13_2, hfz13_3, hfz13_4, hfz13_5⟩ := bcf6 (W := w5) BK227
  go_wp2
  repeat (go_quiet (fail); try go_wp2)
  go_meet
  case rel => exact ⟨_, (((l0_5.length : Int) != (l1_5.length : Int))), eqNow, H', ⟨by first | omega | exact Nat.le_refl _⟩, ⟨bkUp BK226.out⟩, ⟨bkUp BK227.out⟩, ⟨belPut⟩⟩
 case rest =>
  clear HC3
  obtain ⟨kq, x47_2, rfl, HA, HJ2, BK226, BK227, HB⟩ := hcut
  cases kq with
  | zero => exact absurd HA.out (by simp [selvagelaw10_same.j0])
  | succ kj2 =>
   have H := HA.out
   clear HA
   simp only [selvagelaw10_same.j0] at H
   by_cases c29 : x47_2 = true
   ·rw [if_pos c29] at H
    exact absurd H (by simp)
   replace c29 := Bool.eq_false_iff.mpr c29
   subst c29
   have H1 : (selvagelaw10_same.l0 kj2 0 a0_0 a0_1 a0_2 a0_3 a0_4 l0_5 a1_0 a1_1 a1_2 a1_3 a1_4 l1_5) = some r := by rw [if_neg (show ¬ (false = true) by decide)] at H; exact H
   clear H
   have H := H1
   clear H1
   have H' := Aside0.mk H
   clear H
   go_wp2
   repeat (go_quiet (fail); try go_wp2)
   go_loopg [5] kj2 (fun kq v5 w' => ∃ (x5_2 : Int), v5 = .int .i64 x5_2 ∧ Aside0 (selvagelaw10_same.l0 kq x5_2 a0_0 a0_1 a0_2 a0_3 a0_4 l0_5 a1_0 a1_1 a1_2 a1_3 a1_4 l1_5 = some r) ∧ Aside0 (kq ≤ kj2) ∧ Aside0 (w'.heap[gb226]? = some (.cells #[.int .i64 a0_0, .int .i64 a0_1, .int .i64 a0_2, .int .i64 a0_3, .string a0_4, (.slice A0_5 l0_5.length c0_5)] 41 (0, 0))) ∧ Aside0 (w'.heap[gb227]? = some (.cells #[.int .i64 a1_0, .int .i64 a1_1, .int .i64 a1_2, .int .i64 a1_3, .string a1_4, (.slice A1_5 l1_5.length c1_5)] 41 (0, 0))) ∧ Aside0 (Below w.heap.size w w'))
   case atStart => exact ⟨(0), eqNow, H', ⟨Nat.le_refl _⟩, ⟨bkUp BK226.out⟩, ⟨bkUp BK227.out⟩, ⟨belPut⟩⟩
   case round =>
    clear H'
    try clear c29
    obtain ⟨x5_2, rfl, HA, HK2, BK226, BK227, HB⟩ := hrel
    cases gk with
    | zero => exact absurd HA.out (by simp [selvagelaw10_same.l0])
    | succ k2 =>
     have H := HA.out
     clear HA
     simp only [selvagelaw10_same.l0] at H
     replace H := itLn H
     rcases H with ⟨-, c30b0, H⟩ | ⟨-, c30b0, H⟩
     ·obtain rfl := Option.some.inj H
      have hnb40 := NB226_227.out
      have hnc40 := NB227_226.out
      obtain ⟨hcz41_0, hcz41_1, hcz41_2, hcz41_3, hcz41_4, hcz41_5, hfz41_0, hfz41_1, hfz41_2, hfz41_3, hfz41_4, hfz41_5⟩ := bcf6 (W := wr) BK226
      go_wp2
      repeat (go_quiet (fail); try go_wp2)
      go_ret
      exact ⟨eqEnd, belPut⟩
     replace H := itLn H
     rcases H with ⟨_, _, H⟩ | ⟨-, c31b0, H⟩
     ·cases H
     replace H := itLn H
     rcases H with ⟨_, _, H⟩ | ⟨-, c32b0, H⟩
     ·cases H
     replace H := itE H
     rcases H with ⟨_, _, _, H⟩ | ⟨c33, -, -, H⟩
     ·cases H
     have c33b0 : (!(((rd_T56 l0_5 x5_2).f0) == ((rd_T56 l1_5 x5_2).f0)) || (!((((rd_T56 l0_5 x5_2).f1).toList) == (((rd_T56 l1_5 x5_2).f1).toList)))) = false := by simpa using c33
     clear c33
     have H' := Aside0.mk H
     clear H
     have hnb37 := NB226_227.out
     have hnc37 := NB227_226.out
     obtain ⟨hcz38_0, hcz38_1, hcz38_2, hcz38_3, hcz38_4, hcz38_5, hfz38_0, hfz38_1, hfz38_2, hfz38_3, hfz38_4, hfz38_5⟩ := bcf6 (W := wr) BK226
     obtain ⟨ad228, rfl, hx228_0, hx228_1, p228, q228⟩ := atU_T56 HR0_5 HB x5_2
     obtain ⟨hcz39_0, hcz39_1, hcz39_2, hcz39_3, hcz39_4, hcz39_5, hfz39_0, hfz39_1, hfz39_2, hfz39_3, hfz39_4, hfz39_5⟩ := bcf6 (W := wr) BK227
     obtain ⟨ad229, rfl, hx229_0, hx229_1, p229, q229⟩ := atU_T56 HR1_5 HB x5_2
     go_wp2
     repeat (go_quiet (fail); try go_wp2)
     go_roundg k2
     case measure => have := HJ2.out; have := HK2.out; omega
     case rel => exact ⟨(wrap64 (x5_2 + 1)), eqNow, H', ⟨by have := HJ2.out; have := HK2.out; omega⟩, ⟨bkUp BK226.out⟩, ⟨bkUp BK227.out⟩, ⟨belPut⟩⟩
end Go.Proofs.YtecjoofjiockkaaDoor.Pp
