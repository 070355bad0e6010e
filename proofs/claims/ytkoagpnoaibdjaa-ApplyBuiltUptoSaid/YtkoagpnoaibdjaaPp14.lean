import Derived.Test.YtkoagpnoaibdjaaESt
import Derived.Test.YtkoagpnoaibdjaaPp0
import Derived.Test.YtkoagpnoaibdjaaPp4
import Derived.Test.YtkoagpnoaibdjaaPp5
import Derived.Test.YtkoagpnoaibdjaaPp10
import Derived.Test.YtkoagpnoaibdjaaPp12
import Derived.Test.YtkoagpnoaibdjaaPp13
import Derived.Test.YtkoagpnoaibdjaaEApply
import Derived.Test.YtkoagpnoaibdjaaESure
namespace Go.Proofs.Ytkoagpnoaibdjaa.Pp
open Go.RowKit Go.Proofs.Ytkoagpnoaibdjaa.Ext Go.Proofs.YtkoagpnoaibdjaaW.PrintWords Go.Proofs.YtkoagpnoaibdjaaW.PrintLast Go.Proofs.YtkoagpnoaibdjaaW.PrintMore
attribute [local go_sem] max2_int min2_int max_two min_two max_three min_three max_four min_four   -- for this text's walks alone
set_option linter.unusedVariables false
set_option linter.unusedSimpArgs false
mutual
def selvagelaw17_ApplyBuilt.j0 : Nat → List (S41) → Bool → List (S57) → List ByteArray → List ByteArray → Int → Int → Option (Bool)
 | 0, _, _, _, _, _, _, _ => none
 | k + 1, x3, x41, x386000, x386001, x386002, x386003, x386004 => if x41 = true then ((selvagelaw17_sure.f k).bind fun t391 => (some t391)) else ((apply_Apply.f k x386001 x3 x386004).bind fun bt392 => (if bt392.2.2.2.isNone = true then ((selvagelaw17_same.f k bt392.1 x386002).bind fun t403 => (if t403 = true then (if (bt392.2.2.1.length : Int) = 0 then ((selvagelaw17_plain.f k bt392.2.1 (x3.length : Int)).bind fun t404 => (selvagelaw17_ApplyBuilt.j1 k x3 (!t404) x386000 x386001 x386002 x386003 x386004)) else (selvagelaw17_ApplyBuilt.j1 k x3 true x386000 x386001 x386002 x386003 x386004)) else (selvagelaw17_ApplyBuilt.j1 k x3 true x386000 x386001 x386002 x386003 x386004))) else (selvagelaw17_ApplyBuilt.j1 k x3 true x386000 x386001 x386002 x386003 x386004)))
def selvagelaw17_ApplyBuilt.j1 : Nat → List (S41) → Bool → List (S57) → List ByteArray → List ByteArray → Int → Int → Option (Bool)
 | 0, _, _, _, _, _, _, _ => none
 | k + 1, x3, x74, x386000, x386001, x386002, x386003, x386004 => if x74 = true then (none) else (selvagelaw17_ApplyBuilt.l0 k x3 ([] : List (S41)) 0 x386000 x386001 x386002 x386003 x386004)
def selvagelaw17_ApplyBuilt.l0 : Nat → List (S41) → List (S41) → Int → List (S57) → List ByteArray → List ByteArray → Int → Int → Option (Bool)
 | 0, _, _, _, _, _, _, _, _ => none
 | k + 1, x3, x9, x10, x386000, x386001, x386002, x386003, x386004 => if x10 < (x3.length : Int) then (if 0 ≤ x10 then ((selvageref10_Reverse.f k ((rd_T41 x3 x10).f0) ((rd_T41 x3 x10).f1) ((rd_T41 x3 x10).f2) ((rd_T41 x3 x10).f3) ((rd_T41 x3 x10).f4) ((rd_T41 x3 x10).f5)).bind fun bt406 => (if x9.length < 1954687338268 then (selvagelaw17_ApplyBuilt.l0 k x3 (x9 ++ [(⟨bt406.1, bt406.2.1, bt406.2.2.1, bt406.2.2.2.1, bt406.2.2.2.2.1, bt406.2.2.2.2.2⟩ : S41)]) (wrap64 (x10 + 1)) x386000 x386001 x386002 x386003 x386004) else (none))) else (none)) else ((apply_Apply.f k x386002 x9 x386004).bind fun bt417 => (if bt417.2.2.2.isNone = true then ((selvagelaw17_same.f k bt417.1 x386001).bind fun t428 => (if t428 = true then (if (bt417.2.2.1.length : Int) = 0 then ((selvagelaw17_plain.f k bt417.2.1 (x3.length : Int)).bind fun t429 => (if t429 = true then ((selvagelaw17_sure.f k).bind fun t430 => (some t430)) else (none))) else (none)) else (none))) else (none)))
end
def selvagelaw17_ApplyBuilt.f (k : Nat) (l0_0 : List (S57)) (l0_1 : List ByteArray) (l0_2 : List ByteArray) (a0_3 : Int) (a0_4 : Int) : Option (Bool) := (selvageref10_Build.f k l0_0 l0_1 l0_2 a0_3).bind fun bt386 => (if bt386.2 = 0 then (if a0_4 < 0 then (selvagelaw17_ApplyBuilt.j0 k bt386.1 true l0_0 l0_1 l0_2 a0_3 a0_4) else (if a0_4 > 3 then (selvagelaw17_ApplyBuilt.j0 k bt386.1 true l0_0 l0_1 l0_2 a0_3 a0_4) else ((selvagelaw17_common.f k l0_0 l0_1 l0_2 a0_3 a0_4).bind fun t390 => (selvagelaw17_ApplyBuilt.j0 k bt386.1 (!t390) l0_0 l0_1 l0_2 a0_3 a0_4)))) else (selvagelaw17_ApplyBuilt.j0 k bt386.1 true l0_0 l0_1 l0_2 a0_3 a0_4))
theorem selvagelaw17_ApplyBuilt.j1_dead : ∀ k y0 y2 y3 y4 y5 y6, selvagelaw17_ApplyBuilt.j1 k y0 true y2 y3 y4 y5 y6 = none
 | 0, _, _, _, _, _, _ => rfl
 | k + 1, _, _, _, _, _, _ => by simp [selvagelaw17_ApplyBuilt.j1]
set_option maxHeartbeats 80000000 in
set_option maxRecDepth 100000 in
theorem selvagelaw17_ApplyBuilt.calls (k : Nat) (A0_0 : Option Addr) (c0_0 : Nat) (l0_0 : List (S57)) (A0_1 : Option Addr) (c0_1 : Nat) (l0_1 : List ByteArray) (A0_2 : Option Addr) (c0_2 : Nat) (l0_2 : List ByteArray) (a0_3 : Int) (a0_4 : Int) (r : Bool) (w : World) (hr0_0 : Kd.C k57 w A0_0 l0_0.length l0_0) (hc0_0 : l0_0.length ≤ c0_0) (hr0_1 : Kd.C Kd.string w A0_1 l0_1.length l0_1) (hc0_1 : l0_1.length ≤ c0_1) (hr0_2 : Kd.C Kd.string w A0_2 l0_2.length l0_2) (hc0_2 : l0_2.length ≤ c0_2) (h : selvagelaw17_ApplyBuilt.f k l0_0 l0_1 l0_2 a0_3 a0_4 = some r) :
  Calls Try.prog 3 #[.agg #[.slice A0_0 l0_0.length c0_0, .slice A0_1 l0_1.length c0_1, .slice A0_2 l0_2.length c0_2, .int .i64 a0_3, .int .i64 a0_4]] w fun e w' => e = .returned (.bool r) ∧ Below w.heap.size w w' := by
 have hu25 := Try.underlying25
 have hu41 := Try.underlying41
 have hu34 := Try.underlying34
 have hu62 := Try.underlying62
 have HR0_0 := Aside0.mk hr0_0
 have HC0_0 := Aside0.mk hc0_0
 clear hr0_0 hc0_0
 have HR0_1 := Aside0.mk hr0_1
 have HC0_1 := Aside0.mk hc0_1
 clear hr0_1 hc0_1
 have HR0_2 := Aside0.mk hr0_2
 have HC0_2 := Aside0.mk hc0_2
 clear hr0_2 hc0_2
 have HB := Aside0.mk (Below.refl w.heap.size w)
 have H := h
 clear h
 unfold selvagelaw17_ApplyBuilt.f at H
 replace H := bdS H
 obtain ⟨⟨t386, t387⟩, A2, H⟩ := H
 replace H : (if t387 = 0 then (if a0_4 < 0 then (selvagelaw17_ApplyBuilt.j0 k t386 true l0_0 l0_1 l0_2 a0_3 a0_4) else (if a0_4 > 3 then (selvagelaw17_ApplyBuilt.j0 k t386 true l0_0 l0_1 l0_2 a0_3 a0_4) else ((selvagelaw17_common.f k l0_0 l0_1 l0_2 a0_3 a0_4).bind fun t390 => (selvagelaw17_ApplyBuilt.j0 k t386 (!t390) l0_0 l0_1 l0_2 a0_3 a0_4)))) else (selvagelaw17_ApplyBuilt.j0 k t386 true l0_0 l0_1 l0_2 a0_3 a0_4)) = some r := H
 have HC3 := Aside0.mk H
 clear H
 go_enter Try.func3, Try.ntmps3
 try simp only [List.append_eq, List.cons_append, List.nil_append]
 go_upto_region 2 with (first | ((with_reducible refine gate_dst (N := 1) rfl ?_); (try (refine gate_guard (by rfl) ?_; dsimp only)); refine boxEv (N := 1) #[.slice A0_0 l0_0.length c0_0, .slice A0_1 l0_1.length c0_1, .slice A0_2 l0_2.length c0_2, .int .i64 a0_3, .int .i64 a0_4] 25 ?_; intro gb385 hg w4 hbox hb; have BK385 := Aside0.mk hbox; have GW385 := gwN HB hg; have GE385 := GW385; replace HB := hbD HB hb; clear hb hbox hg; obtain ⟨hcz5_0, hcz5_1, hcz5_2, hcz5_3, hcz5_4, hfz5_0, hfz5_1, hfz5_2, hfz5_3, hfz5_4⟩ := bcf5 (W := w4) BK385) | ((with_reducible refine gate_callee (f := 6) rfl ?_); refine goL (some 22) Try.func6 #[.slice A0_0 l0_0.length c0_0, .slice A0_1 l0_1.length c0_1, .slice A0_2 l0_2.length c0_2, .int .i64 a0_3] ?_; (with_reducible refine (selvageref10_Build.calls k _ _ l0_0 _ _ l0_1 _ _ l0_2 a0_3 t386 t387 _ ?side1 ?side2 ?side3 ?side4 ?side5 ?side6 A2.out).mono ?_); (case side1 => exact kcU HR0_0 HB); (case side2 => exact HC0_0.out); (case side3 => exact kcU HR0_1 HB); (case side4 => exact HC0_1.out); (case side5 => exact kcU HR0_2 HB); (case side6 => exact HC0_2.out); rintro e w6 ⟨v388, rfl, ho0, hb⟩; refine ⟨_, rfl, ?_⟩; have HO389 := Aside0.mk (Kd.S_lower ho0 (below_size (belPut))); replace BK385 := bkD BK385 hb; replace HB := hbD HB hb; clear hb; (try clear ho0)))
 (try simp only [Act.put, List.setIfInBounds_toArray, List.set_cons_zero, List.set_cons_succ])
 go_cut [41] (fun v41 wc => ∃ (kq : Nat) (x41_2 : Bool), v41 = .bool x41_2 ∧ Aside0 (selvagelaw17_ApplyBuilt.j0 kq t386 x41_2 l0_0 l0_1 l0_2 a0_3 a0_4 = some r) ∧ Aside0 (kq ≤ k) ∧ Aside0 (Kd.S k41 41 wc w.heap.size (fun _ => True) v388 t386) ∧ Aside0 (wc.heap[gb385]? = some (.cells #[(.slice A0_0 l0_0.length c0_0), (.slice A0_1 l0_1.length c0_1), (.slice A0_2 l0_2.length c0_2), .int .i64 a0_3, .int .i64 a0_4] 25 (0, 0))) ∧ Aside0 (Below w.heap.size w wc))
 case first =>
  have H := HC3.out
  clear HC3
  replace H := itEn H
  rcases H with ⟨c7, c7b0, c7b1, H⟩ | ⟨-, c7b0, c7b1, H⟩
  ·(first | rw [c7b0] | (simp only [i64_w, i32_w]; rw [c7b0]) | skip)
   have H' := Aside0.mk H
   clear H
   go_wp2
   go_meet
   case rel => exact ⟨_, (true), eqNow, H', ⟨by first | omega | exact Nat.le_refl _⟩, ⟨kdMv HO389⟩, ⟨bkUp BK385.out⟩, ⟨belPut⟩⟩
  (first | rw [c7b0] | (simp only [i64_w, i32_w]; rw [c7b0]) | skip)
  replace H := itL H
  rcases H with ⟨-, c8b0, H⟩ | ⟨-, c8b0, H⟩
  ·have H' := Aside0.mk H
   clear H
   have hcz9_0 := bkc (v := .slice A0_0 l0_0.length c0_0) BK385.out 0 rfl
   have hcz9_1 := bkc (v := .slice A0_1 l0_1.length c0_1) BK385.out 1 rfl
   have hcz9_2 := bkc (v := .slice A0_2 l0_2.length c0_2) BK385.out 2 rfl
   have hcz9_3 := bkc (v := .int .i64 a0_3) BK385.out 3 rfl
   have hcz9_4 := bkc (v := .int .i64 a0_4) BK385.out 4 rfl
   have hfz9_0 := blk_frozen BK385.out 0
   have hfz9_1 := blk_frozen BK385.out 1
   have hfz9_2 := blk_frozen BK385.out 2
   have hfz9_3 := blk_frozen BK385.out 3
   have hfz9_4 := blk_frozen BK385.out 4
   go_wp2
   go_meet
   case rel => exact ⟨_, (true), eqNow, H', ⟨by first | omega | exact Nat.le_refl _⟩, ⟨kdMv HO389⟩, ⟨bkUp BK385.out⟩, ⟨belPut⟩⟩
  replace H := itG H
  rcases H with ⟨-, c10b0, H⟩ | ⟨-, c10b0, H⟩
  ·have H' := Aside0.mk H
   clear H
   have hcz11_0 := bkc (v := .slice A0_0 l0_0.length c0_0) BK385.out 0 rfl
   have hcz11_1 := bkc (v := .slice A0_1 l0_1.length c0_1) BK385.out 1 rfl
   have hcz11_2 := bkc (v := .slice A0_2 l0_2.length c0_2) BK385.out 2 rfl
   have hcz11_3 := bkc (v := .int .i64 a0_3) BK385.out 3 rfl
   have hcz11_4 := bkc (v := .int .i64 a0_4) BK385.out 4 rfl
   have hfz11_0 := blk_frozen BK385.out 0
   have hfz11_1 := blk_frozen BK385.out 1
   have hfz11_2 := blk_frozen BK385.out 2
   have hfz11_3 := blk_frozen BK385.out 3
   have hfz11_4 := blk_frozen BK385.out 4
   go_wp2
   go_meet
   case rel => exact ⟨_, (true), eqNow, H', ⟨by first | omega | exact Nat.le_refl _⟩, ⟨kdMv HO389⟩, ⟨bkUp BK385.out⟩, ⟨belPut⟩⟩
  replace H := bdS H
  obtain ⟨t390, A12, H⟩ := H
  have H' := Aside0.mk H
  clear H
  have hcz13_0 := bkc (v := .slice A0_0 l0_0.length c0_0) BK385.out 0 rfl
  have hcz13_1 := bkc (v := .slice A0_1 l0_1.length c0_1) BK385.out 1 rfl
  have hcz13_2 := bkc (v := .slice A0_2 l0_2.length c0_2) BK385.out 2 rfl
  have hcz13_3 := bkc (v := .int .i64 a0_3) BK385.out 3 rfl
  have hcz13_4 := bkc (v := .int .i64 a0_4) BK385.out 4 rfl
  have hfz13_0 := blk_frozen BK385.out 0
  have hfz13_1 := blk_frozen BK385.out 1
  have hfz13_2 := blk_frozen BK385.out 2
  have hfz13_3 := blk_frozen BK385.out 3
  have hfz13_4 := blk_frozen BK385.out 4
  go_wp2_with (first | (go_at_call 7; (with_reducible refine (selvagelaw17_common.calls k _ _ l0_0 _ _ l0_1 _ _ l0_2 a0_3 a0_4 t390 _ ?side1 ?side2 ?side3 ?side4 ?side5 ?side6 A12.out).mono ?_); (case side1 => exact kcU HR0_0 HB); (case side2 => exact HC0_0.out); (case side3 => exact kcU HR0_1 HB); (case side4 => exact HC0_1.out); (case side5 => exact kcU HR0_2 HB); (case side6 => exact HC0_2.out); rintro e w14 ⟨rfl, hb⟩; replace HO389 := Aside0.mk (Kd.S_below (by (with_reducible repeat (first | apply Kd.S_alloc | apply Kd.S_drewN | apply Kd.S_drew)); exact HO389.out) hb); replace BK385 := bkD BK385 hb; replace HB := hbD HB hb; clear hb))
  go_meet
  case rel => exact ⟨_, (!t390), eqNow, H', ⟨by first | omega | exact Nat.le_refl _⟩, ⟨kdMv HO389⟩, ⟨bkUp BK385.out⟩, ⟨belPut⟩⟩
 case rest =>
  clear HC3
  try clear hcz5_0 hcz5_1 hcz5_2 hcz5_3 hcz5_4
  try clear hfz5_0 hfz5_1 hfz5_2 hfz5_3 hfz5_4
  obtain ⟨kq, x41_2, rfl, HA, HJ2, HO_3, BK385, HB⟩ := hcut
  cases kq with
  | zero => exact absurd HA.out (by simp [selvagelaw17_ApplyBuilt.j0])
  | succ kj2 =>
   have H := HA.out
   clear HA
   simp only [selvagelaw17_ApplyBuilt.j0] at H
   replace H := itB H
   rcases H with ⟨rfl, H⟩ | ⟨rfl, H⟩
   ·replace H := bdS H
    obtain ⟨t391, A16, H⟩ := H
    obtain rfl := Option.some.inj H
    go_wp2_with (first | ((with_reducible refine gate_callee (f := 8) rfl ?_); refine goL (some 42) Try.func8 #[] ?_; (with_reducible refine (selvagelaw17_sure.calls kj2  t391 _ A16.out).mono ?_); rintro e w17 ⟨rfl, hb⟩; refine ⟨_, rfl, ?_⟩; replace HO_3 := Aside0.mk (Kd.S_below (by (with_reducible repeat (first | apply Kd.S_alloc | apply Kd.S_drewN | apply Kd.S_drew)); exact HO_3.out) hb); replace BK385 := bkD BK385 hb; replace HB := hbD HB hb; clear hb))
    go_ret
    exact ⟨eqEnd, belPut⟩
   replace H := bdS H
   obtain ⟨⟨t392, t393, t394, t395⟩, A18, H⟩ := H
   replace H : (if t395.isNone = true then ((selvagelaw17_same.f kj2 t392 l0_2).bind fun t403 => (if t403 = true then (if (t394.length : Int) = 0 then ((selvagelaw17_plain.f kj2 t393 (t386.length : Int)).bind fun t404 => (selvagelaw17_ApplyBuilt.j1 kj2 t386 (!t404) l0_0 l0_1 l0_2 a0_3 a0_4)) else (selvagelaw17_ApplyBuilt.j1 kj2 t386 true l0_0 l0_1 l0_2 a0_3 a0_4)) else (selvagelaw17_ApplyBuilt.j1 kj2 t386 true l0_0 l0_1 l0_2 a0_3 a0_4))) else (selvagelaw17_ApplyBuilt.j1 kj2 t386 true l0_0 l0_1 l0_2 a0_3 a0_4)) = some r := H
   have HC19 := Aside0.mk H
   clear H
   have hcz20_0 := bkc (v := .slice A0_0 l0_0.length c0_0) BK385.out 0 rfl
   have hcz20_1 := bkc (v := .slice A0_1 l0_1.length c0_1) BK385.out 1 rfl
   have hcz20_2 := bkc (v := .slice A0_2 l0_2.length c0_2) BK385.out 2 rfl
   have hcz20_3 := bkc (v := .int .i64 a0_3) BK385.out 3 rfl
   have hcz20_4 := bkc (v := .int .i64 a0_4) BK385.out 4 rfl
   have hfz20_0 := blk_frozen BK385.out 0
   have hfz20_1 := blk_frozen BK385.out 1
   have hfz20_2 := blk_frozen BK385.out 2
   have hfz20_3 := blk_frozen BK385.out 3
   have hfz20_4 := blk_frozen BK385.out 4
   obtain ⟨Ao21, co21, eo21⟩ := Kd.S_slice HO_3.out
   subst eo21
   go_upto_region 5 with (first | ((with_reducible refine gate_callee (f := 9) rfl ?_); refine goL (some 49) Try.func9 #[.slice A0_1 l0_1.length c0_1, .slice Ao21 t386.length co21, .int .i64 a0_4] ?_; (with_reducible refine (apply_Apply.calls kj2 _ _ l0_1 _ _ t386 a0_4 t392 t393 t394 t395 _ ?side1 ?side2 ?side3 ?side4 A18.out).mono ?_); (case side1 => exact kcU HR0_1 HB); (case side2 => exact HC0_1.out); (case side3 => repeat (first | exact (Kd.S_reads' HO_3.out).2.2 | (with_reducible refine Kd.C_alloc ?_ _) | (with_reducible refine Kd.C_drewN ?_ _) | (with_reducible refine Kd.C_drew ?_))); (case side4 => exact (Kd.S_reads' HO_3.out).2.1); rintro e w22 ⟨v396, v398, v400, rfl, ho0, ho1, ho2, hb⟩; refine ⟨_, rfl, ?_⟩; replace HO_3 := Aside0.mk (Kd.S_below (by (with_reducible repeat (first | apply Kd.S_alloc | apply Kd.S_drewN | apply Kd.S_drew)); exact HO_3.out) hb); have HO397 := Aside0.mk (Kd.R_lower ho0 (below_size (belPut))); have HO399 := Aside0.mk (Kd.R_lower ho1 (below_size (belPut))); have HO401 := Aside0.mk (Kd.R_lower ho2 (below_size (belPut))); replace BK385 := bkD BK385 hb; replace HB := hbD HB hb; clear hb; (try clear ho0); (try clear ho1); (try clear ho2); (try simp only [errW_none, errW_some])))
   (try simp only [Act.put, List.setIfInBounds_toArray, List.set_cons_zero, List.set_cons_succ])
   go_cut [74] (fun v74 wc => ∃ (kq : Nat) (x74_18 : Bool), v74 = .bool x74_18 ∧ Aside0 (selvagelaw17_ApplyBuilt.j1 kq t386 x74_18 l0_0 l0_1 l0_2 a0_3 a0_4 = some r) ∧ Aside0 (kq ≤ kj2) ∧ Aside0 (Kd.S k41 41 wc w.heap.size (fun _ => True) (.slice Ao21 t386.length co21) t386) ∧ Aside0 (wc.heap[gb385]? = some (.cells #[(.slice A0_0 l0_0.length c0_0), (.slice A0_1 l0_1.length c0_1), (.slice A0_2 l0_2.length c0_2), .int .i64 a0_3, .int .i64 a0_4] 25 (0, 0))) ∧ Aside0 (Below w.heap.size w wc))
   case first =>
    have H := HC19.out
    clear HC19
    rcases t395 with _ | q402
    ·have H1 : ((selvagelaw17_same.f kj2 t392 l0_2).bind fun t403 => (if t403 = true then (if (t394.length : Int) = 0 then ((selvagelaw17_plain.f kj2 t393 (t386.length : Int)).bind fun t404 => (selvagelaw17_ApplyBuilt.j1 kj2 t386 (!t404) l0_0 l0_1 l0_2 a0_3 a0_4)) else (selvagelaw17_ApplyBuilt.j1 kj2 t386 true l0_0 l0_1 l0_2 a0_3 a0_4)) else (selvagelaw17_ApplyBuilt.j1 kj2 t386 true l0_0 l0_1 l0_2 a0_3 a0_4))) = some r := by rw [if_pos (show (none : Option Int).isNone = true by rfl)] at H; exact H
     clear H
     have H := H1
     clear H1
     try simp only [errW_none, errW_some]
     replace H := bdS H
     obtain ⟨t403, A23, H⟩ := H
     by_cases c24 : t403 = true
     rotate_left
     ·rw [if_neg c24] at H
      first | exact absurd H (by simp) | (rw [selvagelaw17_ApplyBuilt.j1_dead] at H; exact absurd H (by simp))
     subst c24
     have H1 : (if (t394.length : Int) = 0 then ((selvagelaw17_plain.f kj2 t393 (t386.length : Int)).bind fun t404 => (selvagelaw17_ApplyBuilt.j1 kj2 t386 (!t404) l0_0 l0_1 l0_2 a0_3 a0_4)) else (selvagelaw17_ApplyBuilt.j1 kj2 t386 true l0_0 l0_1 l0_2 a0_3 a0_4)) = some r := by rw [if_pos rfl] at H; exact H
     clear H
     have H := H1
     clear H1
     replace H := itEn H
     rcases H with ⟨c25, -, -, H⟩ | ⟨-, c25b0, c25b1, H⟩
     ·first | exact absurd H (by simp) | (rw [selvagelaw17_ApplyBuilt.j1_dead] at H; exact absurd H (by simp))
     (first | rw [c25b0] | (simp only [i64_w, i32_w]; rw [c25b0]) | skip)
     replace H := bdS H
     obtain ⟨t404, A26, H⟩ := H
     have H' := Aside0.mk H
     clear H
     have hcz27_0 := bkc (v := .slice A0_0 l0_0.length c0_0) BK385.out 0 rfl
     have hcz27_1 := bkc (v := .slice A0_1 l0_1.length c0_1) BK385.out 1 rfl
     have hcz27_2 := bkc (v := .slice A0_2 l0_2.length c0_2) BK385.out 2 rfl
     have hcz27_3 := bkc (v := .int .i64 a0_3) BK385.out 3 rfl
     have hcz27_4 := bkc (v := .int .i64 a0_4) BK385.out 4 rfl
     have hfz27_0 := blk_frozen BK385.out 0
     have hfz27_1 := blk_frozen BK385.out 1
     have hfz27_2 := blk_frozen BK385.out 2
     have hfz27_3 := blk_frozen BK385.out 3
     have hfz27_4 := blk_frozen BK385.out 4
     obtain ⟨Ao28, co28, eo28⟩ := Kd.R_slice HO397.out
     subst eo28
     go_wp2_with (first | (go_at_call 10; (with_reducible refine (selvagelaw17_same.calls kj2 _ _ t392 _ _ l0_2 true _ ?side1 ?side2 ?side3 ?side4 A23.out).mono ?_); (case side1 => repeat (first | exact (Kd.R_reads' HO397.out).2.2 | (with_reducible refine Kd.C_alloc ?_ _) | (with_reducible refine Kd.C_drewN ?_ _) | (with_reducible refine Kd.C_drew ?_))); (case side2 => exact (Kd.R_reads' HO397.out).2.1); (case side3 => exact kcU HR0_2 HB); (case side4 => exact HC0_2.out); rintro e w' ⟨rfl, ⟨nd, rfl⟩⟩; obtain ⟨Ao29, co29, eo29⟩ := Kd.R_slice HO401.out; subst eo29; obtain ⟨Ao30, co30, eo30⟩ := Kd.R_slice HO399.out; subst eo30) | (go_at_call 11; (with_reducible refine (selvagelaw17_plain.calls kj2 _ _ t393 (t386.length : Int) t404 _ ?side1 ?side2 A26.out).mono ?_); (case side1 => repeat (first | exact (Kd.R_reads' HO399.out).2.2 | (with_reducible refine Kd.C_alloc ?_ _) | (with_reducible refine Kd.C_drewN ?_ _) | (with_reducible refine Kd.C_drew ?_))); (case side2 => exact (Kd.R_reads' HO399.out).2.1); rintro e w' ⟨rfl, ⟨nd, rfl⟩⟩))
     go_meet
     case rel => exact ⟨_, (!t404), eqNow, H', ⟨by have := HJ2.out; first | omega | exact Nat.le_refl _⟩, ⟨kdMv HO_3⟩, ⟨bkUp BK385.out⟩, ⟨belPut⟩⟩
    have H1 : (selvagelaw17_ApplyBuilt.j1 kj2 t386 true l0_0 l0_1 l0_2 a0_3 a0_4) = some r := by rw [if_neg (show ¬ (some q402).isNone = true by simp)] at H; exact H
    clear H
    have H := H1
    clear H1
    try simp only [errW_none, errW_some]
    have H' := Aside0.mk H
    clear H
    go_wp2
    go_meet
    case rel => exact ⟨_, (true), eqNow, H', ⟨by have := HJ2.out; first | omega | exact Nat.le_refl _⟩, ⟨kdMv HO_3⟩, ⟨bkUp BK385.out⟩, ⟨belPut⟩⟩
   case rest =>
    clear HC19
    try clear c15
    try clear hcz20_0 hcz20_1 hcz20_2 hcz20_3 hcz20_4
    try clear hcz5_0 hcz5_1 hcz5_2 hcz5_3 hcz5_4
    try clear hfz20_0 hfz20_1 hfz20_2 hfz20_3 hfz20_4
    try clear hfz5_0 hfz5_1 hfz5_2 hfz5_3 hfz5_4
    obtain ⟨kq, x74_18, rfl, HA, HJ18, HO_3, BK385, HB⟩ := hcut
    cases kq with
    | zero => exact absurd HA.out (by simp [selvagelaw17_ApplyBuilt.j1])
    | succ kj18 =>
     have H := HA.out
     clear HA
     simp only [selvagelaw17_ApplyBuilt.j1] at H
     by_cases c36 : x74_18 = true
     ·rw [if_pos c36] at H
      exact absurd H (by simp)
     replace c36 := Bool.eq_false_iff.mpr c36
     subst c36
     have H1 : (selvagelaw17_ApplyBuilt.l0 kj18 t386 ([] : List (S41)) 0 l0_0 l0_1 l0_2 a0_3 a0_4) = some r := by rw [if_neg (show ¬ (false = true) by decide)] at H; exact H
     clear H
     have H := H1
     clear H1
     have H' := Aside0.mk H
     clear H
     go_wp2
     go_loopg [9, 10] kj18 (fun kq v9 v10 w' => ∃ (x9_3 : List (S41)) (x10_3 : Int), v10 = .int .i64 x10_3 ∧ Aside0 (selvagelaw17_ApplyBuilt.l0 kq t386 x9_3 x10_3 l0_0 l0_1 l0_2 a0_3 a0_4 = some r) ∧ Aside0 (kq ≤ kj18) ∧ Aside0 (Kd.S k41 41 w' w.heap.size (fun k_ => some k_ ≠ (v9 : Value).ownBlock) (.slice Ao21 t386.length co21) t386) ∧ Aside0 (Kd.S k41 41 w' w.heap.size (fun k_ => some k_ ≠ ((.slice Ao21 t386.length co21) : Value).ownBlock) v9 x9_3) ∧ Aside0 (w'.heap[gb385]? = some (.cells #[(.slice A0_0 l0_0.length c0_0), (.slice A0_1 l0_1.length c0_1), (.slice A0_2 l0_2.length c0_2), .int .i64 a0_3, .int .i64 a0_4] 25 (0, 0))) ∧ Aside0 (Below w.heap.size w w'))
     case atStart => exact ⟨(([] : List (S41))), (0), eqNow, H', ⟨Nat.le_refl _⟩, ⟨by (with_reducible repeat (first | apply Kd.S_alloc | apply Kd.S_drewN | apply Kd.S_drew)); exact Kd.S_mono HO_3.out (fun _ hk => (by simp [Value.ownBlock]))⟩, ⟨kNil⟩, ⟨bkUp BK385.out⟩, ⟨belPut⟩⟩
     case round =>
      clear H'
      try clear c15
      try clear c36
      try clear hcz20_0 hcz20_1 hcz20_2 hcz20_3 hcz20_4
      try clear hcz5_0 hcz5_1 hcz5_2 hcz5_3 hcz5_4
      try clear hfz20_0 hfz20_1 hfz20_2 hfz20_3 hfz20_4
      try clear hfz5_0 hfz5_1 hfz5_2 hfz5_3 hfz5_4
      obtain ⟨x9_3, x10_3, rfl, HA, HK3, HO_3, HO_9, BK385, HB⟩ := hrel
      cases gk with
      | zero => exact absurd HA.out (by simp [selvagelaw17_ApplyBuilt.l0])
      | succ k3 =>
       have H := HA.out
       clear HA
       simp only [selvagelaw17_ApplyBuilt.l0] at H
       replace H := itL H
       rcases H with ⟨-, c37b0, H⟩ | ⟨-, c37b0, H⟩
       ·replace H := itLn H
        rcases H with ⟨_, _, H⟩ | ⟨-, c38b0, H⟩
        ·cases H
        replace H := bdS H
        obtain ⟨⟨t406, t407, t408, t409, t410, t411⟩, A39, H⟩ := H
        replace H : (if x9_3.length < 1954687338268 then (selvagelaw17_ApplyBuilt.l0 k3 t386 (x9_3 ++ [(⟨t406, t407, t408, t409, t410, t411⟩ : S41)]) (wrap64 (x10_3 + 1)) l0_0 l0_1 l0_2 a0_3 a0_4) else (none)) = some r := H
        replace H := itLn H
        rcases H with ⟨_, _, H⟩ | ⟨c40, -, H⟩
        ·cases H
        have LMc40 := Aside0.mk c40
        clear c40
        obtain ⟨y414, hy414⟩ : ∃ y_ : List (S41), y_ = (x9_3 ++ [(⟨t406, t407, t408, t409, t410, t411⟩ : S41)]) := ⟨_, rfl⟩
        replace H : (selvagelaw17_ApplyBuilt.l0 k3 t386 y414 (wrap64 (x10_3 + 1)) l0_0 l0_1 l0_2 a0_3 a0_4) = some r := by first | (rw [hy414]; with_reducible exact H) | (have H2_ := (Option.bind_some _ _).symm.trans H; rw [hy414]; with_reducible exact H2_) | (have H2_ := (Option.bind_some _ _).symm.trans H; with_reducible exact H2_) | with_reducible exact H | (rw [hy414]; exact H) | exact H
        have Ny414 := Aside0.mk hy414
        clear hy414
        have H' := Aside0.mk H
        clear H
        have p405 : 0 ≤ (x10_3 : Int) := ofDec
        have q405 : x10_3 < (t386.length : Int) := ofDec
        obtain ⟨ad405, A405_5, c405_5, e405, hx405_0, hx405_1, hx405_2, hx405_3, hx405_4, hx405_5, hl405_5, hi405_5⟩ := at_T41 (Kd.S_reads' HO_3.out).2.2 x10_3 p405 q405
        cases e405
        obtain ⟨ce405, hce405, hMe405, hcc405⟩ := Kd.S_get HO_3.out z41 x10_3 p405 (by first | exact q405 | exact ofDec | (have e_ := (Kd.S_reads' HO_3.out).1; omega))
        obtain ⟨ve405_5, rfl, ge405_5⟩ := k41_openM hMe405
        have hv405_5 := hcc405 5 _ rfl
        rw [add_field _ _ 5 (by omega)] at hv405_5
        replace hv405_5 := Option.some.inj (hv405_5.symm.trans hx405_5)
        rw [hv405_5] at ge405_5
        have HL405_5 := Aside0.mk (show Kd.R k72 72 _ _ _ _ ((rd_T41 t386 x10_3).f5) from ge405_5)
        clear hv405_5 ge405_5
        clear hcc405 hce405
        have HR405_5 := Aside0.mk hi405_5
        have HC405_5 := Aside0.mk hl405_5
        clear hi405_5 hl405_5
        replace p405 := eq_true p405
        replace q405 := eq_true q405
        go_wp2_with (first | ((with_reducible refine gate_callee (f := 12) rfl ?_); refine goL (some 86) Try.func12 #[.agg #[.int .i64 ((rd_T41 t386 x10_3).f0), .int .i64 ((rd_T41 t386 x10_3).f1), .int .i64 ((rd_T41 t386 x10_3).f2), .int .i64 ((rd_T41 t386 x10_3).f3), .string ((rd_T41 t386 x10_3).f4), .slice A405_5 ((rd_T41 t386 x10_3).f5).length c405_5]] ?_; (with_reducible refine (selvageref10_Reverse.calls k3 ((rd_T41 t386 x10_3).f0) ((rd_T41 t386 x10_3).f1) ((rd_T41 t386 x10_3).f2) ((rd_T41 t386 x10_3).f3) ((rd_T41 t386 x10_3).f4) _ _ ((rd_T41 t386 x10_3).f5) t406 t407 t408 t409 t410 t411 _ ?side1 ?side2 A39.out).mono ?_); (case side1 => repeat (first | exact (by repeat (first | (with_reducible exact HR405_5.out) | (with_reducible refine Kd.C_alloc ?_ _) | (with_reducible refine Kd.C_drewN ?_ _) | (with_reducible refine Kd.C_drew ?_) | exact HR405_5.out)) | (with_reducible refine Kd.C_alloc ?_ _) | (with_reducible refine Kd.C_drewN ?_ _) | (with_reducible refine Kd.C_drew ?_))); (case side2 => exact HC405_5.out); rintro e w41 ⟨v412, rfl, ho0, hb⟩; refine ⟨_, rfl, ?_⟩; replace HO_3 := Aside0.mk (Kd.S_elder' (by (with_reducible repeat (first | apply Kd.S_alloc | apply Kd.S_drewN | apply Kd.S_drew)); exact HO_3.out) (Kd.R_base ho0) hb); replace HO_9 := Aside0.mk (Kd.S_elder' (by (with_reducible repeat (first | apply Kd.S_alloc | apply Kd.S_drewN | apply Kd.S_drew)); exact HO_9.out) (Kd.R_base ho0) hb); have HO413 := Aside0.mk (Kd.R_lower (Kd.R_new' ho0 (Kd.R_lt (by (with_reducible repeat (first | apply Kd.R_alloc | apply Kd.R_drewN | apply Kd.R_drew)); exact HL405_5.out))) (below_size (belPut))); replace HL405_5 := Aside0.mk (Kd.R_elder' (by (with_reducible repeat (first | apply Kd.R_alloc | apply Kd.R_drewN | apply Kd.R_drew)); exact HL405_5.out) (Kd.R_base ho0) hb); replace BK385 := bkD BK385 hb; replace HR405_5 := Aside0.mk (Kd.C_below (by repeat (first | (with_reducible exact HR405_5.out) | (with_reducible refine Kd.C_alloc ?_ _) | (with_reducible refine Kd.C_drewN ?_ _) | (with_reducible refine Kd.C_drew ?_) | exact HR405_5.out)) hb); replace HB := hbD HB hb; clear hb; (try clear ho0); obtain ⟨Ao43, co43, eo43⟩ := Kd.R_slice HO413.out; subst eo43) | ((with_reducible refine gate_builtin (b := .append) (xs := #[.tmp 81, .tmp 87]) rfl ?_); (try (refine gate_guard (by rfl) ?_; dsimp only)); at_builtin; refine Kd.S_append k41 (w0 := w) w.heap.size rfl (.tmp 81) (.tmp 87) 26 41 (.agg #[(.int .i64 0), (.int .i64 0), (.int .i64 0), (.int .i64 0), (.string ⟨#[]⟩), (.slice none 0 0)]) 72 rfl Try.underlying26 info41 rfl (by decide) (by omega) u9 x9_3 (⟨t406, t407, t408, t409, t410, t411⟩ : S41) [.int .i64 t406, .int .i64 t407, .int .i64 t408, .int .i64 t409, .string t410, .slice Ao43 t411.length co43] (fun k_ => some k_ ≠ (.slice (some ad405) t386.length co21 : Value).ownBlock) (fun k_ => some k_ = (.slice Ao43 t411.length co43 : Value).ownBlock) rfl rfl ?aP (fun k_ hk_ => ((Kd.R_mono (ok' := fun k_ => ((fun k_ => some k_ ≠ (.slice (some ad405) t386.length co21 : Value).ownBlock)) k_ ∧ some k_ ≠ (u9 : Value).ownBlock) (Kd.R_apart' (Kd.R_apart' (HO413.out) (Kd.S_typed HO_3.out) (by decide)) (Kd.S_typed HO_9.out) (by decide)) (fun k_ hk => ⟨hk.1.2, hk.2⟩))).1 k_ hk_.symm) ?aF ?aO ?aB ?aS ?aL ?_; (case aP => exact k41_mkM _ _ _ (⟨t406, t407, t408, t409, t410, t411⟩ : S41) (Kd.R_mono (Kd.R_tight rfl (Kd.R_mono (ok' := fun k_ => ((fun k_ => some k_ ≠ (.slice (some ad405) t386.length co21 : Value).ownBlock)) k_ ∧ some k_ ≠ (u9 : Value).ownBlock) (Kd.R_apart' (Kd.R_apart' (HO413.out) (Kd.S_typed HO_3.out) (by decide)) (Kd.S_typed HO_9.out) (by decide)) (fun k_ hk => ⟨hk.1.2, hk.2⟩))) (fun _ h_ => h_))); (case aB => exact (belPut)); (case aF => exact (fun k_ hk => Kd.fresh' (Kd.S_lt (by (with_reducible repeat (first | apply Kd.S_alloc | apply Kd.S_drewN | apply Kd.S_drew)); exact HO_3.out)) k_ hk)); (case aO => exact (by (with_reducible repeat (first | apply Kd.S_alloc | apply Kd.S_drewN | apply Kd.S_drew)); exact Kd.S_mono HO_9.out (fun k_ hk => ⟨hk.1, fun e_ => hk.2 e_⟩))); (case aS => exact (below_size (belPut))); (case aL => have := LMc40.out; omega); intro v415 w42 ho hb hg hat; rw [← Ny414.out] at ho; replace HO_3 := Aside0.mk (Kd.S_after (ok := (fun k_ => some k_ ≠ (.slice Ao43 t411.length co43 : Value).ownBlock)) (by (with_reducible repeat (first | apply Kd.S_alloc | apply Kd.S_drewN | apply Kd.S_drew)); exact Kd.S_mono HO_3.out (fun _ hk => ⟨hk.2, hk.1⟩)) hg hat); replace BK385 := Aside0.mk (blk_grown (g := gb385) (o := .cells #[.slice A0_0 l0_0.length c0_0, .slice A0_1 l0_1.length c0_1, .slice A0_2 l0_2.length c0_2, .int .i64 a0_3, .int .i64 a0_4] 25 (0, 0)) (bkUp BK385.out) hg (Kd.S_ne HO_9.out BK385.out (by decide))); replace HL405_5 := Aside0.mk (Kd.R_after (ok := (fun k_ => some k_ ≠ (.slice (some ad405) t386.length co21 : Value).ownBlock ∧ some k_ ≠ (.slice Ao43 t411.length co43 : Value).ownBlock)) (by (with_reducible repeat (first | apply Kd.R_alloc | apply Kd.R_drewN | apply Kd.R_drew)); exact Kd.R_mono HL405_5.out (fun _ hk => ⟨⟨hk.1.2, hk.2⟩, hk.1.1⟩)) hg hat); replace HB := Aside0.mk hb; have HO416 := Aside0.mk (ho); clear HO_9 HO413; clear ho hb hg hat))
        go_roundg k3
        case measure => have := HJ2.out; have := HJ18.out; have := HK3.out; omega
        case rel => exact ⟨(y414), (wrap64 (x10_3 + 1)), eqNow, H', ⟨by have := HJ2.out; have := HJ18.out; have := HK3.out; omega⟩, ⟨by (with_reducible repeat (first | apply Kd.S_alloc | apply Kd.S_drewN | apply Kd.S_drew)); exact Kd.S_mono HO_3.out (fun _ hk => hk.2)⟩, ⟨kdMv HO416⟩, ⟨bkUp BK385.out⟩, ⟨belPut⟩⟩
       replace H := bdS H
       obtain ⟨⟨t417, t418, t419, t420⟩, A44, H⟩ := H
       replace H : (if t420.isNone = true then ((selvagelaw17_same.f k3 t417 l0_1).bind fun t428 => (if t428 = true then (if (t419.length : Int) = 0 then ((selvagelaw17_plain.f k3 t418 (t386.length : Int)).bind fun t429 => (if t429 = true then ((selvagelaw17_sure.f k3).bind fun t430 => (some t430)) else (none))) else (none)) else (none))) else (none)) = some r := H
       rcases t420 with _ | q427
       ·have H1 : ((selvagelaw17_same.f k3 t417 l0_1).bind fun t428 => (if t428 = true then (if (t419.length : Int) = 0 then ((selvagelaw17_plain.f k3 t418 (t386.length : Int)).bind fun t429 => (if t429 = true then ((selvagelaw17_sure.f k3).bind fun t430 => (some t430)) else (none))) else (none)) else (none))) = some r := by rw [if_pos (show (none : Option Int).isNone = true by rfl)] at H; exact H
        clear H
        have H := H1
        clear H1
        try simp only [errW_none, errW_some]
        replace H := bdS H
        obtain ⟨t428, A45, H⟩ := H
        by_cases c46 : t428 = true
        rotate_left
        ·rw [if_neg c46] at H
         exact absurd H (by simp)
        subst c46
        have H1 : (if (t419.length : Int) = 0 then ((selvagelaw17_plain.f k3 t418 (t386.length : Int)).bind fun t429 => (if t429 = true then ((selvagelaw17_sure.f k3).bind fun t430 => (some t430)) else (none))) else (none)) = some r := by rw [if_pos rfl] at H; exact H
        clear H
        have H := H1
        clear H1
        replace H := itEn H
        rcases H with ⟨_, _, _, H⟩ | ⟨-, c47b0, c47b1, H⟩
        ·cases H
        replace H := bdS H
        obtain ⟨t429, A48, H⟩ := H
        by_cases c49 : t429 = true
        rotate_left
        ·rw [if_neg c49] at H
         exact absurd H (by simp)
        subst c49
        have H1 : ((selvagelaw17_sure.f k3).bind fun t430 => (some t430)) = some r := by rw [if_pos rfl] at H; exact H
        clear H
        have H := H1
        clear H1
        replace H := bdS H
        obtain ⟨t430, A50, H⟩ := H
        obtain rfl := Option.some.inj H
        have hcz51_0 := bkc (v := .slice A0_0 l0_0.length c0_0) BK385.out 0 rfl
        have hcz51_1 := bkc (v := .slice A0_1 l0_1.length c0_1) BK385.out 1 rfl
        have hcz51_2 := bkc (v := .slice A0_2 l0_2.length c0_2) BK385.out 2 rfl
        have hcz51_3 := bkc (v := .int .i64 a0_3) BK385.out 3 rfl
        have hcz51_4 := bkc (v := .int .i64 a0_4) BK385.out 4 rfl
        have hfz51_0 := blk_frozen BK385.out 0
        have hfz51_1 := blk_frozen BK385.out 1
        have hfz51_2 := blk_frozen BK385.out 2
        have hfz51_3 := blk_frozen BK385.out 3
        have hfz51_4 := blk_frozen BK385.out 4
        obtain ⟨Ao52, co52, eo52⟩ := Kd.S_slice HO_9.out
        subst eo52
        go_wp2_with (first | ((with_reducible refine gate_callee (f := 9) rfl ?_); refine goL (some 95) Try.func9 #[.slice A0_2 l0_2.length c0_2, .slice Ao52 x9_3.length co52, .int .i64 a0_4] ?_; (with_reducible refine (apply_Apply.calls k3 _ _ l0_2 _ _ x9_3 a0_4 t417 t418 t419 none _ ?side1 ?side2 ?side3 ?side4 A44.out).mono ?_); (case side1 => exact kcU HR0_2 HB); (case side2 => exact HC0_2.out); (case side3 => repeat (first | exact (Kd.S_reads' HO_9.out).2.2 | (with_reducible refine Kd.C_alloc ?_ _) | (with_reducible refine Kd.C_drewN ?_ _) | (with_reducible refine Kd.C_drew ?_))); (case side4 => exact (Kd.S_reads' HO_9.out).2.1); rintro e w53 ⟨v421, v423, v425, rfl, ho0, ho1, ho2, hb⟩; refine ⟨_, rfl, ?_⟩; replace HO_3 := Aside0.mk (Kd.S_below (by (with_reducible repeat (first | apply Kd.S_alloc | apply Kd.S_drewN | apply Kd.S_drew)); exact HO_3.out) hb); replace HO_9 := Aside0.mk (Kd.S_below (by (with_reducible repeat (first | apply Kd.S_alloc | apply Kd.S_drewN | apply Kd.S_drew)); exact HO_9.out) hb); have HO422 := Aside0.mk (Kd.R_lower ho0 (below_size (belPut))); have HO424 := Aside0.mk (Kd.R_lower ho1 (below_size (belPut))); have HO426 := Aside0.mk (Kd.R_lower ho2 (below_size (belPut))); replace BK385 := bkD BK385 hb; replace HB := hbD HB hb; clear hb; (try clear ho0); (try clear ho1); (try clear ho2); (try simp only [errW_none, errW_some]); obtain ⟨hcz54_0, hcz54_1, hcz54_2, hcz54_3, hcz54_4, hfz54_0, hfz54_1, hfz54_2, hfz54_3, hfz54_4⟩ := bcf5 (W := w53) BK385; obtain ⟨Ao55, co55, eo55⟩ := Kd.R_slice HO422.out; subst eo55) | (go_at_call 10; (with_reducible refine (selvagelaw17_same.calls k3 _ _ t417 _ _ l0_1 true _ ?side1 ?side2 ?side3 ?side4 A45.out).mono ?_); (case side1 => repeat (first | exact (Kd.R_reads' HO422.out).2.2 | (with_reducible refine Kd.C_alloc ?_ _) | (with_reducible refine Kd.C_drewN ?_ _) | (with_reducible refine Kd.C_drew ?_))); (case side2 => exact (Kd.R_reads' HO422.out).2.1); (case side3 => exact kcU HR0_1 HB); (case side4 => exact HC0_1.out); rintro e w' ⟨rfl, ⟨nd, rfl⟩⟩; obtain ⟨Ao56, co56, eo56⟩ := Kd.R_slice HO426.out; subst eo56; obtain ⟨Ao57, co57, eo57⟩ := Kd.R_slice HO424.out; subst eo57) | (go_at_call 11; (with_reducible refine (selvagelaw17_plain.calls k3 _ _ t418 (t386.length : Int) true _ ?side1 ?side2 A48.out).mono ?_); (case side1 => repeat (first | exact (Kd.R_reads' HO424.out).2.2 | (with_reducible refine Kd.C_alloc ?_ _) | (with_reducible refine Kd.C_drewN ?_ _) | (with_reducible refine Kd.C_drew ?_))); (case side2 => exact (Kd.R_reads' HO424.out).2.1); rintro e w' ⟨rfl, ⟨nd, rfl⟩⟩) | (go_at_call 8; (with_reducible refine (selvagelaw17_sure.calls k3  t430 _ A50.out).mono ?_); rintro e w58 ⟨rfl, hb⟩; replace HO_3 := Aside0.mk (Kd.S_below (by (with_reducible repeat (first | apply Kd.S_alloc | apply Kd.S_drewN | apply Kd.S_drew)); exact HO_3.out) hb); replace HO_9 := Aside0.mk (Kd.S_below (by (with_reducible repeat (first | apply Kd.S_alloc | apply Kd.S_drewN | apply Kd.S_drew)); exact HO_9.out) hb); replace HO422 := Aside0.mk (Kd.R_below (kdUp HO422.out) hb); replace HO424 := Aside0.mk (Kd.R_below (kdUp HO424.out) hb); replace HO426 := Aside0.mk (Kd.R_below (kdUp HO426.out) hb); replace BK385 := bkD BK385 hb; replace HB := hbD HB hb; clear hb))
        go_ret
        exact ⟨eqEnd, belPut⟩
       have H1 : (none) = some r := by rw [if_neg (show ¬ (some q427).isNone = true by simp)] at H; exact H
       exact absurd H1 (by simp)
end Go.Proofs.Ytkoagpnoaibdjaa.Pp
