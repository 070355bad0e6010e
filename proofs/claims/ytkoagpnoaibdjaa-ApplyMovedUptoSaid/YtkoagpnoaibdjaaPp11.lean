import Derived.Test.YtkoagpnoaibdjaaESt
import Derived.Test.YtkoagpnoaibdjaaPp0
import Derived.Test.YtkoagpnoaibdjaaPp4
import Derived.Test.YtkoagpnoaibdjaaPp5
import Derived.Test.YtkoagpnoaibdjaaPp10
import Derived.Test.YtkoagpnoaibdjaaEApply
import Derived.Test.YtkoagpnoaibdjaaESure
namespace Go.Proofs.YtkoagpnoaibdjaaW.PrintWords
open Go.RowKit
namespace Kd
section
variable {α β : Type} {d : Kd α} {d' : Kd β} {e e' : Nat} {w w1 W : World} {base b : Nat} {ok ok' okv oku : Nat → Prop} {u v : Value} {xs : List α} {ys : List β}
theorem S_over' (h : S d e W base ok u xs) (hty : ∀ k, v.ownBlock = some k → ∃ cells, W.heap[k]? = some (.cells cells e' (0, 0))) (ht : ∀ q, q ∈ e :: d.E → q ≠ e') (hg : W.grownBy w1 v.ownBlock) : S d e w1 base ok u xs := by
  obtain ⟨f, h⟩ := h
  exact ⟨f, R_over' h hty ht hg⟩
end
end Kd
end Go.Proofs.YtkoagpnoaibdjaaW.PrintWords
namespace Go.Proofs.Ytkoagpnoaibdjaa.Pp
open Go.RowKit Go.Proofs.Ytkoagpnoaibdjaa.Ext Go.Proofs.YtkoagpnoaibdjaaW.PrintWords Go.Proofs.YtkoagpnoaibdjaaW.PrintLast Go.Proofs.YtkoagpnoaibdjaaW.PrintMore
attribute [local go_sem] max2_int min2_int max_two min_two max_three min_three max_four min_four   -- for this text's walks alone
set_option linter.unusedVariables false
set_option linter.unusedSimpArgs false
mutual
def selvagelaw17_ApplyMoved.j0 : Nat → Int → List (S41) → Bool → List (S57) → List ByteArray → List ByteArray → Int → Int → Option (Bool)
 | 0, _, _, _, _, _, _, _, _ => none
 | k + 1, x1, x5, x51, x289000, x289001, x289002, x289003, x289004 => if x51 = true then ((selvagelaw17_sure.f k).bind fun t295 => (some t295)) else (selvagelaw17_ApplyMoved.l0 k x1 x5 ([] : List ByteArray) ([] : List ByteArray) 0 x289000 x289001 x289002 x289003 x289004)
def selvagelaw17_ApplyMoved.l0 : Nat → Int → List (S41) → List ByteArray → List ByteArray → Int → List (S57) → List ByteArray → List ByteArray → Int → Int → Option (Bool)
 | 0, _, _, _, _, _, _, _, _, _, _ => none
 | k + 1, x1, x5, x7, x8, x9, x289000, x289001, x289002, x289003, x289004 => if x9 < x1 then (if x7.length < 8796093022208 then (if x8.length < 8796093022208 then (selvagelaw17_ApplyMoved.l0 k x1 x5 (x7 ++ [(⟨#[0, 109, 111, 118, 101, 100, 10]⟩ : ByteArray)]) (x8 ++ [(⟨#[0, 109, 111, 118, 101, 100, 10]⟩ : ByteArray)]) (wrap64 (x9 + 1)) x289000 x289001 x289002 x289003 x289004) else (none)) else (none)) else (selvagelaw17_ApplyMoved.l1 k x1 x5 x7 x8 0 x289000 x289001 x289002 x289003 x289004)
def selvagelaw17_ApplyMoved.l1 : Nat → Int → List (S41) → List ByteArray → List ByteArray → Int → List (S57) → List ByteArray → List ByteArray → Int → Int → Option (Bool)
 | 0, _, _, _, _, _, _, _, _, _, _ => none
 | k + 1, x1, x5, x7, x8, x10, x289000, x289001, x289002, x289003, x289004 => if x10 < (x289001.length : Int) then (if 0 ≤ x10 then (if (rdOf ByteArray.empty x289001 x10).toList = ([0, 109, 111, 118, 101, 100, 10] : List UInt8) then ((selvagelaw17_sure.f k).bind fun t303 => (some t303)) else (selvagelaw17_ApplyMoved.l1 k x1 x5 x7 x8 (wrap64 (x10 + 1)) x289000 x289001 x289002 x289003 x289004)) else (none)) else (if x7.length + x289001.length < 8796093022208 then (if x8.length + x289002.length < 8796093022208 then ((some (x8 ++ x289002 : List ByteArray)).bind fun y307 => ((apply_Apply.f k (x7 ++ x289001) x5 0).bind fun bt310 => (if bt310.2.2.2.isNone = true then ((selvagelaw17_unlike.f k x289001).bind fun t321 => (selvagelaw17_ApplyMoved.j3 k x1 y307 bt310.1 bt310.2.1 bt310.2.2.1 (!t321))) else (selvagelaw17_ApplyMoved.j3 k x1 y307 bt310.1 bt310.2.1 bt310.2.2.1 true)))) else (none)) else (none))
def selvagelaw17_ApplyMoved.j3 : Nat → Int → List ByteArray → List ByteArray → List (S45) → List Int → Bool → Option (Bool)
 | 0, _, _, _, _, _, _ => none
 | k + 1, x1, x8, x11, x12, x13, x101 => if x101 = true then ((selvagelaw17_sure.f k).bind fun t322 => (some t322)) else (selvagelaw17_ApplyMoved.l2 k x1 x8 x11 x12 x13 0)
def selvagelaw17_ApplyMoved.l2 : Nat → Int → List ByteArray → List ByteArray → List (S45) → List Int → Int → Option (Bool)
 | 0, _, _, _, _, _, _ => none
 | k + 1, x1, x8, x11, x12, x13, x15 => if x15 < (x12.length : Int) then (if 0 ≤ x15 then (if ((rd_T45 x12 x15).f2) = x1 then (if ((rd_T45 x12 x15).f3) = 0 then (selvagelaw17_ApplyMoved.l2 k x1 x8 x11 x12 x13 (wrap64 (x15 + 1))) else (none)) else (none)) else (none)) else ((selvagelaw17_same.f k x11 x8).bind fun t325 => (if t325 = true then (if (x13.length : Int) = 0 then ((selvagelaw17_sure.f k).bind fun t326 => (some t326)) else (none)) else (none)))
end
def selvagelaw17_ApplyMoved.f (k : Nat) (l0_0 : List (S57)) (l0_1 : List ByteArray) (l0_2 : List ByteArray) (a0_3 : Int) (a0_4 : Int) (a1 : Int) : Option (Bool) := (selvageref10_Build.f k l0_0 l0_1 l0_2 (mx 1 (mn a0_3 100))).bind fun bt289 => (if bt289.2 = 0 then ((selvagelaw17_common.f k l0_0 l0_1 l0_2 a0_3 a0_4).bind fun t293 => (if t293 = true then (if (bt289.1.length : Int) = 0 then (selvagelaw17_ApplyMoved.j0 k (mx 0 (mn a1 50)) bt289.1 true l0_0 l0_1 l0_2 a0_3 a0_4) else (if 0 < (bt289.1.length : Int) then (selvagelaw17_ApplyMoved.j0 k (mx 0 (mn a1 50)) bt289.1 (((rd_T41 bt289.1 0).f1) == 0) l0_0 l0_1 l0_2 a0_3 a0_4) else (none))) else (selvagelaw17_ApplyMoved.j0 k (mx 0 (mn a1 50)) bt289.1 true l0_0 l0_1 l0_2 a0_3 a0_4))) else (selvagelaw17_ApplyMoved.j0 k (mx 0 (mn a1 50)) bt289.1 true l0_0 l0_1 l0_2 a0_3 a0_4))
set_option maxHeartbeats 80000000 in
set_option maxRecDepth 100000 in
theorem selvagelaw17_ApplyMoved.calls (k : Nat) (A0_0 : Option Addr) (c0_0 : Nat) (l0_0 : List (S57)) (A0_1 : Option Addr) (c0_1 : Nat) (l0_1 : List ByteArray) (A0_2 : Option Addr) (c0_2 : Nat) (l0_2 : List ByteArray) (a0_3 : Int) (a0_4 : Int) (a1 : Int) (r : Bool) (w : World) (hr0_0 : Kd.C k57 w A0_0 l0_0.length l0_0) (hc0_0 : l0_0.length ≤ c0_0) (hr0_1 : Kd.C Kd.string w A0_1 l0_1.length l0_1) (hc0_1 : l0_1.length ≤ c0_1) (hr0_2 : Kd.C Kd.string w A0_2 l0_2.length l0_2) (hc0_2 : l0_2.length ≤ c0_2) (h : selvagelaw17_ApplyMoved.f k l0_0 l0_1 l0_2 a0_3 a0_4 a1 = some r) :
  Calls Try.prog 4 #[.agg #[.slice A0_0 l0_0.length c0_0, .slice A0_1 l0_1.length c0_1, .slice A0_2 l0_2.length c0_2, .int .i64 a0_3, .int .i64 a0_4], .int .i64 a1] w fun e w' => e = .returned (.bool r) ∧ Below w.heap.size w w' := by
 have hu25 := Try.underlying25
 have hu34 := Try.underlying34
 have hu62 := Try.underlying62
 have HR0_0 := Aside0.mk hr0_0
 have HC0_0 := Aside0.mk hc0_0
 clear hr0_0 hc0_0
 have HR0_1 := Aside0.mk hr0_1
 have HC0_1 := Aside0.mk hc0_1
 clear hr0_1 hc0_1
 have HR0_2 := Aside0.mk hr0_2
 have HC0_2 := Aside0.mk hc0_2
 clear hr0_2 hc0_2
 have HB := Aside0.mk (Below.refl w.heap.size w)
 have H := h
 clear h
 unfold selvagelaw17_ApplyMoved.f at H
 obtain ⟨ji3, hji3⟩ : ∃ j_ : Int, (mn a0_3 100) = j_ := ⟨_, rfl⟩
 first | rw [hji3] at H | simp only [hji3] at H
 (try (have hji3h : ji3 ≤ 100 := by (rw [← hji3]; unfold mn; (repeat' split) <;> omega)))
 (try (have hji3g : ji3 ≤ 64 := by omega))
 have hji3_ : (if 100 < a0_3 then 100 else a0_3) = ji3 := hji3
 obtain ⟨ji4, hji4⟩ : ∃ j_ : Int, (mx 1 (ji3)) = j_ := ⟨_, rfl⟩
 first | rw [hji4] at H | simp only [hji4] at H
 have hji4_ : (if 1 < (ji3) then (ji3) else 1) = ji4 := hji4
 replace H := bdS H
 obtain ⟨⟨t289, t290⟩, A5, H⟩ := H
 replace H : (if t290 = 0 then ((selvagelaw17_common.f k l0_0 l0_1 l0_2 a0_3 a0_4).bind fun t293 => (if t293 = true then (if (t289.length : Int) = 0 then (selvagelaw17_ApplyMoved.j0 k (mx 0 (mn a1 50)) t289 true l0_0 l0_1 l0_2 a0_3 a0_4) else (if 0 < (t289.length : Int) then (selvagelaw17_ApplyMoved.j0 k (mx 0 (mn a1 50)) t289 (((rd_T41 t289 0).f1) == 0) l0_0 l0_1 l0_2 a0_3 a0_4) else (none))) else (selvagelaw17_ApplyMoved.j0 k (mx 0 (mn a1 50)) t289 true l0_0 l0_1 l0_2 a0_3 a0_4))) else (selvagelaw17_ApplyMoved.j0 k (mx 0 (mn a1 50)) t289 true l0_0 l0_1 l0_2 a0_3 a0_4)) = some r := H
 obtain ⟨ji6, hji6⟩ : ∃ j_ : Int, (mn a1 50) = j_ := ⟨_, rfl⟩
 first | rw [hji6] at H | simp only [hji6] at H
 (try rw [hji6] at A5)
 (try (have hji6h : ji6 ≤ 50 := by (rw [← hji6]; unfold mn; (repeat' split) <;> omega)))
 (try (have hji6g : ji6 ≤ 64 := by omega))
 have hji6_ : (if 50 < a1 then 50 else a1) = ji6 := hji6
 obtain ⟨ji7, hji7⟩ : ∃ j_ : Int, (mx 0 (ji6)) = j_ := ⟨_, rfl⟩
 first | rw [hji7] at H | simp only [hji7] at H
 (try rw [hji7] at A5)
 have hji7_ : (if 0 < (ji6) then (ji6) else 0) = ji7 := hji7
 have HC8 := Aside0.mk H
 clear H
 go_enter Try.func4, Try.ntmps4
 try simp only [List.append_eq, List.cons_append, List.nil_append]
 go_upto_region 3 with (first | ((with_reducible refine gate_dst (N := 2) rfl ?_); (try (refine gate_guard (by rfl) ?_; dsimp only)); refine boxEv (N := 2) #[.slice A0_0 l0_0.length c0_0, .slice A0_1 l0_1.length c0_1, .slice A0_2 l0_2.length c0_2, .int .i64 a0_3, .int .i64 a0_4] 25 ?_; intro gb288 hg w9 hbox hb; have BK288 := Aside0.mk hbox; have GW288 := gwN HB hg; have GE288 := GW288; replace HB := hbD HB hb; clear hb hbox hg; obtain ⟨hcz10_0, hcz10_1, hcz10_2, hcz10_3, hcz10_4, hfz10_0, hfz10_1, hfz10_2, hfz10_3, hfz10_4⟩ := bcf5 (W := w9) BK288) | ((with_reducible refine gate_callee (f := 6) rfl ?_); refine goesL_ (some 27) rfl rfl Try.func6 (by kernel_rfl) rfl #[.slice A0_0 l0_0.length c0_0, .slice A0_1 l0_1.length c0_1, .slice A0_2 l0_2.length c0_2, .int .i64 ji4] rfl (by (try simp only [List.map_toArray, List.map_cons, List.map_nil]); first | done | (simp only [hji4]; rfl) | rfl | (simp only [List.length_drop, List.length_take]; rfl)) ?_; (with_reducible refine (selvageref10_Build.calls k _ _ l0_0 _ _ l0_1 _ _ l0_2 ji4 t289 t290 _ ?side1 ?side2 ?side3 ?side4 ?side5 ?side6 A5.out).mono ?_); (case side1 => exact kcU HR0_0 HB); (case side2 => exact HC0_0.out); (case side3 => exact kcU HR0_1 HB); (case side4 => exact HC0_1.out); (case side5 => exact kcU HR0_2 HB); (case side6 => exact HC0_2.out); rintro e w11 ⟨v291, rfl, ho0, hb⟩; refine ⟨_, rfl, ?_⟩; have HO292 := Aside0.mk (Kd.S_lower ho0 (below_size (belPut))); replace BK288 := bkD BK288 hb; replace HB := hbD HB hb; clear hb; (try clear ho0)))
 (try simp only [Act.put, List.setIfInBounds_toArray, List.set_cons_zero, List.set_cons_succ])
 go_cut [51] (fun v51 wc => ∃ (kq : Nat) (x51_7 : Bool), v51 = .bool x51_7 ∧ Aside0 (selvagelaw17_ApplyMoved.j0 kq ji7 t289 x51_7 l0_0 l0_1 l0_2 a0_3 a0_4 = some r) ∧ Aside0 (kq ≤ k) ∧ Aside0 (Kd.S k41 41 wc w.heap.size (fun _ => True) v291 t289) ∧ Aside0 (wc.heap[gb288]? = some (.cells #[(.slice A0_0 l0_0.length c0_0), (.slice A0_1 l0_1.length c0_1), (.slice A0_2 l0_2.length c0_2), .int .i64 a0_3, .int .i64 a0_4] 25 (0, 0))) ∧ Aside0 (Below w.heap.size w wc))
 case first =>
  have H := HC8.out
  clear HC8
  replace H := itEn H
  rcases H with ⟨c12, c12b0, c12b1, H⟩ | ⟨-, c12b0, c12b1, H⟩
  ·(first | rw [c12b0] | (simp only [i64_w, i32_w]; rw [c12b0]) | skip)
   have H' := Aside0.mk H
   clear H
   go_wp2
   go_meet
   case rel => exact ⟨_, (true), eqNow, H', ⟨by first | omega | exact Nat.le_refl _⟩, ⟨kdMv HO292⟩, ⟨bkUp BK288.out⟩, ⟨belPut⟩⟩
  (first | rw [c12b0] | (simp only [i64_w, i32_w]; rw [c12b0]) | skip)
  replace H := bdS H
  obtain ⟨t293, A13, H⟩ := H
  replace H := itBn H
  rcases H with ⟨rfl, H⟩ | ⟨rfl, H⟩
  ·have H' := Aside0.mk H
   clear H
   have hcz23_0 := bkc (v := .slice A0_0 l0_0.length c0_0) BK288.out 0 rfl
   have hcz23_1 := bkc (v := .slice A0_1 l0_1.length c0_1) BK288.out 1 rfl
   have hcz23_2 := bkc (v := .slice A0_2 l0_2.length c0_2) BK288.out 2 rfl
   have hcz23_3 := bkc (v := .int .i64 a0_3) BK288.out 3 rfl
   have hcz23_4 := bkc (v := .int .i64 a0_4) BK288.out 4 rfl
   have hfz23_0 := blk_frozen BK288.out 0
   have hfz23_1 := blk_frozen BK288.out 1
   have hfz23_2 := blk_frozen BK288.out 2
   have hfz23_3 := blk_frozen BK288.out 3
   have hfz23_4 := blk_frozen BK288.out 4
   go_wp2_with (first | (go_at_call 7; (with_reducible refine (selvagelaw17_common.calls k _ _ l0_0 _ _ l0_1 _ _ l0_2 a0_3 a0_4 false _ ?side1 ?side2 ?side3 ?side4 ?side5 ?side6 A13.out).mono ?_); (case side1 => exact kcU HR0_0 HB); (case side2 => exact HC0_0.out); (case side3 => exact kcU HR0_1 HB); (case side4 => exact HC0_1.out); (case side5 => exact kcU HR0_2 HB); (case side6 => exact HC0_2.out); rintro e w24 ⟨rfl, hb⟩; replace HO292 := Aside0.mk (Kd.S_below (by (with_reducible repeat (first | apply Kd.S_alloc | apply Kd.S_drewN | apply Kd.S_drew)); exact HO292.out) hb); replace BK288 := bkD BK288 hb; replace HB := hbD HB hb; clear hb))
   go_meet
   case rel => exact ⟨_, (true), eqNow, H', ⟨by first | omega | exact Nat.le_refl _⟩, ⟨kdMv HO292⟩, ⟨bkUp BK288.out⟩, ⟨belPut⟩⟩
  replace H := itE H
  rcases H with ⟨-, c15b0, c15b1, H⟩ | ⟨c15, c15b0, c15b1, H⟩
  ·have H' := Aside0.mk H
   clear H
   have hcz16_0 := bkc (v := .slice A0_0 l0_0.length c0_0) BK288.out 0 rfl
   have hcz16_1 := bkc (v := .slice A0_1 l0_1.length c0_1) BK288.out 1 rfl
   have hcz16_2 := bkc (v := .slice A0_2 l0_2.length c0_2) BK288.out 2 rfl
   have hcz16_3 := bkc (v := .int .i64 a0_3) BK288.out 3 rfl
   have hcz16_4 := bkc (v := .int .i64 a0_4) BK288.out 4 rfl
   have hfz16_0 := blk_frozen BK288.out 0
   have hfz16_1 := blk_frozen BK288.out 1
   have hfz16_2 := blk_frozen BK288.out 2
   have hfz16_3 := blk_frozen BK288.out 3
   have hfz16_4 := blk_frozen BK288.out 4
   go_wp2_with (first | (go_at_call 7; (with_reducible refine (selvagelaw17_common.calls k _ _ l0_0 _ _ l0_1 _ _ l0_2 a0_3 a0_4 true _ ?side1 ?side2 ?side3 ?side4 ?side5 ?side6 A13.out).mono ?_); (case side1 => exact kcU HR0_0 HB); (case side2 => exact HC0_0.out); (case side3 => exact kcU HR0_1 HB); (case side4 => exact HC0_1.out); (case side5 => exact kcU HR0_2 HB); (case side6 => exact HC0_2.out); rintro e w17 ⟨rfl, hb⟩; replace HO292 := Aside0.mk (Kd.S_below (by (with_reducible repeat (first | apply Kd.S_alloc | apply Kd.S_drewN | apply Kd.S_drew)); exact HO292.out) hb); replace BK288 := bkD BK288 hb; replace HB := hbD HB hb; clear hb; obtain ⟨Ao18, co18, eo18⟩ := Kd.S_slice HO292.out; subst eo18))
   go_meet
   case rel => exact ⟨_, (true), eqNow, H', ⟨by first | omega | exact Nat.le_refl _⟩, ⟨kdMv HO292⟩, ⟨bkUp BK288.out⟩, ⟨belPut⟩⟩
  have c15b2 : ¬ (t289 = []) := fun h_ => c15 (by rw [h_]; rfl)
  replace H := itLn H
  rcases H with ⟨_, _, H⟩ | ⟨c19, c19b0, H⟩
  ·cases H
  have c19b1 : decide (0 < t289.length) = true := decide_eq_true (by omega)
  clear c19
  have H' := Aside0.mk H
  clear H
  have hcz20_0 := bkc (v := .slice A0_0 l0_0.length c0_0) BK288.out 0 rfl
  have hcz20_1 := bkc (v := .slice A0_1 l0_1.length c0_1) BK288.out 1 rfl
  have hcz20_2 := bkc (v := .slice A0_2 l0_2.length c0_2) BK288.out 2 rfl
  have hcz20_3 := bkc (v := .int .i64 a0_3) BK288.out 3 rfl
  have hcz20_4 := bkc (v := .int .i64 a0_4) BK288.out 4 rfl
  have hfz20_0 := blk_frozen BK288.out 0
  have hfz20_1 := blk_frozen BK288.out 1
  have hfz20_2 := blk_frozen BK288.out 2
  have hfz20_3 := blk_frozen BK288.out 3
  have hfz20_4 := blk_frozen BK288.out 4
  go_wp2_with (first | (go_at_call 7; (with_reducible refine (selvagelaw17_common.calls k _ _ l0_0 _ _ l0_1 _ _ l0_2 a0_3 a0_4 true _ ?side1 ?side2 ?side3 ?side4 ?side5 ?side6 A13.out).mono ?_); (case side1 => exact kcU HR0_0 HB); (case side2 => exact HC0_0.out); (case side3 => exact kcU HR0_1 HB); (case side4 => exact HC0_1.out); (case side5 => exact kcU HR0_2 HB); (case side6 => exact HC0_2.out); rintro e w21 ⟨rfl, hb⟩; replace HO292 := Aside0.mk (Kd.S_below (by (with_reducible repeat (first | apply Kd.S_alloc | apply Kd.S_drewN | apply Kd.S_drew)); exact HO292.out) hb); replace BK288 := bkD BK288 hb; replace HB := hbD HB hb; clear hb; obtain ⟨Ao22, co22, eo22⟩ := Kd.S_slice HO292.out; subst eo22; have p294 : 0 ≤ (0 : Int) := (by omega); have q294 : 0 < (t289.length : Int) := ofDec; obtain ⟨ad294, A294_5, c294_5, e294, hx294_0, hx294_1, hx294_2, hx294_3, hx294_4, hx294_5, hl294_5, hi294_5⟩ := at_T41 (Kd.S_reads' HO292.out).2.2 0 p294 q294; cases e294; obtain ⟨ce294, hce294, hMe294, hcc294⟩ := Kd.S_get HO292.out z41 0 p294 (by first | exact q294 | exact ofDec | (have e_ := (Kd.S_reads' HO292.out).1; omega)); obtain ⟨ve294_5, rfl, ge294_5⟩ := k41_openM hMe294; have hv294_5 := hcc294 5 _ rfl; rw [add_field _ _ 5 (by omega)] at hv294_5; replace hv294_5 := Option.some.inj (hv294_5.symm.trans hx294_5); rw [hv294_5] at ge294_5; have HL294_5 := Aside0.mk (show Kd.R k72 72 _ _ _ _ ((rd_T41 t289 0).f5) from ge294_5); clear hv294_5 ge294_5; clear hcc294 hce294; have qi294 : (0 < t289.length) = True := eq_true (by omega); (try rw [show ((0 : Int)).toNat = 0 from rfl] at hx294_0); (try rw [show 0 * 6 = 0 from rfl] at hx294_0); (try rw [Addr.add_zero'] at hx294_0); (try rw [show ((0 : Int)).toNat = 0 from rfl] at hx294_1); (try rw [show 0 * 6 = 0 from rfl] at hx294_1); (try rw [Addr.add_zero'] at hx294_1); (try rw [show ((0 : Int)).toNat = 0 from rfl] at hx294_2); (try rw [show 0 * 6 = 0 from rfl] at hx294_2); (try rw [Addr.add_zero'] at hx294_2); (try rw [show ((0 : Int)).toNat = 0 from rfl] at hx294_3); (try rw [show 0 * 6 = 0 from rfl] at hx294_3); (try rw [Addr.add_zero'] at hx294_3); (try rw [show ((0 : Int)).toNat = 0 from rfl] at hx294_4); (try rw [show 0 * 6 = 0 from rfl] at hx294_4); (try rw [Addr.add_zero'] at hx294_4); (try rw [show ((0 : Int)).toNat = 0 from rfl] at hx294_5); (try rw [show 0 * 6 = 0 from rfl] at hx294_5); (try rw [Addr.add_zero'] at hx294_5); have HR294_5 := Aside0.mk hi294_5; have HC294_5 := Aside0.mk hl294_5; clear hi294_5 hl294_5; replace p294 := eq_true p294; replace q294 := eq_true q294))
  go_meet
  case rel => exact ⟨_, ((((rd_T41 t289 0).f1) == 0)), eqNow, H', ⟨by first | omega | exact Nat.le_refl _⟩, ⟨kdMv HO292⟩, ⟨bkUp BK288.out⟩, ⟨belPut⟩⟩
 case rest =>
  clear HC8
  try clear hcz10_0 hcz10_1 hcz10_2 hcz10_3 hcz10_4
  try clear hfz10_0 hfz10_1 hfz10_2 hfz10_3 hfz10_4
  obtain ⟨kq, x51_7, rfl, HA, HJ7, HO_5, BK288, HB⟩ := hcut
  cases kq with
  | zero => exact absurd HA.out (by simp [selvagelaw17_ApplyMoved.j0])
  | succ kj7 =>
   have H := HA.out
   clear HA
   simp only [selvagelaw17_ApplyMoved.j0] at H
   replace H := itB H
   rcases H with ⟨rfl, H⟩ | ⟨rfl, H⟩
   ·replace H := bdS H
    obtain ⟨t295, A26, H⟩ := H
    obtain rfl := Option.some.inj H
    go_wp2_with (first | ((with_reducible refine gate_callee (f := 8) rfl ?_); refine goL (some 52) Try.func8 #[] ?_; (with_reducible refine (selvagelaw17_sure.calls kj7  t295 _ A26.out).mono ?_); rintro e w27 ⟨rfl, hb⟩; refine ⟨_, rfl, ?_⟩; replace HO_5 := Aside0.mk (Kd.S_below (by (with_reducible repeat (first | apply Kd.S_alloc | apply Kd.S_drewN | apply Kd.S_drew)); exact HO_5.out) hb); replace BK288 := bkD BK288 hb; replace HB := hbD HB hb; clear hb))
    go_ret
    exact ⟨by first | rfl | (simp [errW_none, errW_some] <;> rfl) | (simp only [← hji3, ← hji4, ← hji6, ← hji7]; first | rfl | (simp [errW_none, errW_some] <;> rfl)) | (simp [*, errW_none, errW_some] <;> rfl) | (simp only [i64_w, i32_w, u8_w]; first | rfl | (simp [errW_none, errW_some] <;> rfl)) | (simp only [bne_nil, beq_nil]; first | rfl | (simp <;> rfl)), belPut⟩
   have H' := Aside0.mk H
   clear H
   go_wp2
   go_loopg [7, 8, 9] kj7 (fun kq v7 v8 v9 w' => ∃ (x7_2 : List ByteArray) (x8_2 : List ByteArray) (x9_2 : Int), v9 = .int .i64 x9_2 ∧ Aside0 (selvagelaw17_ApplyMoved.l0 kq ji7 t289 x7_2 x8_2 x9_2 l0_0 l0_1 l0_2 a0_3 a0_4 = some r) ∧ Aside0 (kq ≤ kj7) ∧ Aside0 (Kd.S k41 41 w' w.heap.size (fun _ => True) v291 t289) ∧ Aside0 (Kd.R Kd.string 9 w' w.heap.size (fun k_ => some k_ ≠ (v8 : Value).ownBlock) v7 x7_2) ∧ Aside0 (Kd.R Kd.string 9 w' w.heap.size (fun k_ => some k_ ≠ (v7 : Value).ownBlock) v8 x8_2) ∧ Aside0 (w'.heap[gb288]? = some (.cells #[(.slice A0_0 l0_0.length c0_0), (.slice A0_1 l0_1.length c0_1), (.slice A0_2 l0_2.length c0_2), .int .i64 a0_3, .int .i64 a0_4] 25 (0, 0))) ∧ Aside0 (Below w.heap.size w w'))
   case atStart => exact ⟨(([] : List ByteArray)), (([] : List ByteArray)), (0), eqNow, H', ⟨Nat.le_refl _⟩, ⟨kdMv HO_5⟩, ⟨by first | exact Kd.R_nil _ _ _ _ _ | exact Kd.N_nil _ _ _ _ _ | exact Kd.V_nil _ _ _ _ _ | exact Kd.Q_nil _ _ _ _ _ | exact Kd.S_nil _ _ _ _ _⟩, ⟨by first | exact Kd.R_nil _ _ _ _ _ | exact Kd.N_nil _ _ _ _ _ | exact Kd.V_nil _ _ _ _ _ | exact Kd.Q_nil _ _ _ _ _ | exact Kd.S_nil _ _ _ _ _⟩, ⟨bkUp BK288.out⟩, ⟨belPut⟩⟩
   case round =>
    clear H'
    try clear c25
    try clear hcz10_0 hcz10_1 hcz10_2 hcz10_3 hcz10_4
    try clear hfz10_0 hfz10_1 hfz10_2 hfz10_3 hfz10_4
    obtain ⟨x7_2, x8_2, x9_2, rfl, HA, HK2, HO_5, HO_7, HO_8, BK288, HB⟩ := hrel
    cases gk with
    | zero => exact absurd HA.out (by simp [selvagelaw17_ApplyMoved.l0])
    | succ k2 =>
     have H := HA.out
     clear HA
     simp only [selvagelaw17_ApplyMoved.l0] at H
     replace H := itL H
     rcases H with ⟨-, c28b0, H⟩ | ⟨-, c28b0, H⟩
     ·replace H := itLn H
      rcases H with ⟨_, _, H⟩ | ⟨c29, -, H⟩
      ·cases H
      have LMc29 := Aside0.mk c29
      clear c29
      obtain ⟨y296, hy296⟩ : ∃ y_ : List ByteArray, y_ = (x7_2 ++ [(⟨#[0, 109, 111, 118, 101, 100, 10]⟩ : ByteArray)]) := ⟨_, rfl⟩
      replace H : (if x8_2.length < 8796093022208 then (selvagelaw17_ApplyMoved.l0 k2 ji7 t289 y296 (x8_2 ++ [(⟨#[0, 109, 111, 118, 101, 100, 10]⟩ : ByteArray)]) (wrap64 (x9_2 + 1)) l0_0 l0_1 l0_2 a0_3 a0_4) else (none)) = some r := by first | (rw [hy296]; with_reducible exact H) | (have H2_ := (Option.bind_some _ _).symm.trans H; rw [hy296]; with_reducible exact H2_) | (have H2_ := (Option.bind_some _ _).symm.trans H; with_reducible exact H2_) | with_reducible exact H | (rw [hy296]; exact H) | exact H
      have Ny296 := Aside0.mk hy296
      clear hy296
      replace H := itLn H
      rcases H with ⟨_, _, H⟩ | ⟨c30, -, H⟩
      ·cases H
      have LMc30 := Aside0.mk c30
      clear c30
      obtain ⟨y299, hy299⟩ : ∃ y_ : List ByteArray, y_ = (x8_2 ++ [(⟨#[0, 109, 111, 118, 101, 100, 10]⟩ : ByteArray)]) := ⟨_, rfl⟩
      replace H : (selvagelaw17_ApplyMoved.l0 k2 ji7 t289 y296 y299 (wrap64 (x9_2 + 1)) l0_0 l0_1 l0_2 a0_3 a0_4) = some r := by first | (rw [hy299]; with_reducible exact H) | (have H2_ := (Option.bind_some _ _).symm.trans H; rw [hy299]; with_reducible exact H2_) | (have H2_ := (Option.bind_some _ _).symm.trans H; with_reducible exact H2_) | with_reducible exact H | (rw [hy299]; exact H) | exact H
      have Ny299 := Aside0.mk hy299
      clear hy299
      have H' := Aside0.mk H
      clear H
      go_wp2_with (first | ((with_reducible refine gate_builtin (b := .append) (xs := #[.tmp 58, .tmp 59]) rfl ?_); (try (refine gate_guard (by rfl) ?_; dsimp only)); at_builtin; refine Kd.R_append Kd.string (w0 := w) w.heap.size rfl (.tmp 58) (.tmp 59) 23 9 (.string ⟨#[]⟩) 16 rfl Try.underlying23 info9 rfl (by decide) (by omega) u7 x7_2 (⟨#[0, 109, 111, 118, 101, 100, 10]⟩ : ByteArray) [.string (⟨#[0, 109, 111, 118, 101, 100, 10]⟩ : ByteArray)] (fun k_ => some k_ ≠ (u8 : Value).ownBlock) (fun _ => False) rfl rfl ?aP (fun _ hk => hk.elim) ?aF ?aO ?aB ?aS ?aL ?_; (case aP => exact rfl); (case aB => exact (belPut)); (case aF => exact (fun k_ hk => Kd.fresh' (Kd.R_lt (kdUp HO_8.out)) k_ hk)); (case aO => exact (kdUp HO_7.out)); (case aS => exact (below_size (belPut))); (case aL => have := LMc29.out; omega); intro v297 w31 ho hb hg hat; rw [← Ny296.out] at ho; replace HO_5 := Aside0.mk (Kd.S_over' (by (with_reducible repeat (first | apply Kd.S_alloc | apply Kd.S_drewN | apply Kd.S_drew)); exact HO_5.out) (Kd.R_typed (kdUp HO_7.out)) (by decide) hg); replace HO_8 := Aside0.mk (Kd.R_after (ok := (fun _ => True)) (by (with_reducible repeat (first | apply Kd.R_alloc | apply Kd.R_drewN | apply Kd.R_drew)); exact Kd.R_mono HO_8.out (fun _ hk => ⟨trivial, hk⟩)) hg hat); replace BK288 := Aside0.mk (blk_grown (g := gb288) (o := .cells #[.slice A0_0 l0_0.length c0_0, .slice A0_1 l0_1.length c0_1, .slice A0_2 l0_2.length c0_2, .int .i64 a0_3, .int .i64 a0_4] 25 (0, 0)) (bkUp BK288.out) hg (Kd.R_ne HO_7.out BK288.out (by decide))); replace HB := Aside0.mk hb; have HO298 := Aside0.mk (ho); clear HO_7; clear ho hb hg hat) | ((with_reducible refine gate_builtin (b := .append) (xs := #[.tmp 61, .tmp 62]) rfl ?_); (try (refine gate_guard (by rfl) ?_; dsimp only)); at_builtin; refine Kd.R_append Kd.string (w0 := w) w.heap.size rfl (.tmp 61) (.tmp 62) 23 9 (.string ⟨#[]⟩) 16 rfl Try.underlying23 info9 rfl (by decide) (by omega) u8 x8_2 (⟨#[0, 109, 111, 118, 101, 100, 10]⟩ : ByteArray) [.string (⟨#[0, 109, 111, 118, 101, 100, 10]⟩ : ByteArray)] (fun k_ => some k_ ≠ (v297 : Value).ownBlock) (fun _ => False) rfl rfl ?aP (fun _ hk => hk.elim) ?aF ?aO ?aB ?aS ?aL ?_; (case aP => exact rfl); (case aB => exact (belPut)); (case aF => exact (fun k_ hk => Kd.fresh' (Kd.R_lt (kdUp HO298.out)) k_ hk)); (case aO => exact (by (with_reducible repeat (first | apply Kd.R_alloc | apply Kd.R_drewN | apply Kd.R_drew)); exact Kd.R_mono HO_8.out (fun _ hk => hk.2))); (case aS => exact (below_size (belPut))); (case aL => have := LMc30.out; omega); intro v300 w32 ho hb hg hat; rw [← Ny299.out] at ho; replace HO_5 := Aside0.mk (Kd.S_over' (by (with_reducible repeat (first | apply Kd.S_alloc | apply Kd.S_drewN | apply Kd.S_drew)); exact HO_5.out) (Kd.R_typed (kdUp HO_8.out)) (by decide) hg); replace BK288 := Aside0.mk (blk_grown (g := gb288) (o := .cells #[.slice A0_0 l0_0.length c0_0, .slice A0_1 l0_1.length c0_1, .slice A0_2 l0_2.length c0_2, .int .i64 a0_3, .int .i64 a0_4] 25 (0, 0)) (bkUp BK288.out) hg (Kd.R_ne HO_8.out BK288.out (by decide))); replace HO298 := Aside0.mk (Kd.R_after (ok := (fun _ => True)) (by (with_reducible repeat (first | apply Kd.R_alloc | apply Kd.R_drewN | apply Kd.R_drew)); exact Kd.R_mono HO298.out (fun _ hk => ⟨trivial, hk⟩)) hg hat); replace HB := Aside0.mk hb; have HO301 := Aside0.mk (ho); clear HO_8; clear ho hb hg hat))
      go_roundg k2
      case measure => have := HJ7.out; have := HK2.out; omega
      case rel => exact ⟨(y296), (y299), (wrap64 (x9_2 + 1)), eqNow, H', ⟨by have := HJ7.out; have := HK2.out; omega⟩, ⟨kdMv HO_5⟩, ⟨by (with_reducible repeat (first | apply Kd.R_alloc | apply Kd.R_drewN | apply Kd.R_drew)); exact Kd.R_mono HO298.out (fun _ hk => hk.2)⟩, ⟨kdMv HO301⟩, ⟨bkUp BK288.out⟩, ⟨belPut⟩⟩
     have H' := Aside0.mk H
     clear H
     go_wp2
     go_loopg [10] k2 (fun kq v10 w' => ∃ (x10_3 : Int), v10 = .int .i64 x10_3 ∧ Aside0 (selvagelaw17_ApplyMoved.l1 kq ji7 t289 x7_2 x8_2 x10_3 l0_0 l0_1 l0_2 a0_3 a0_4 = some r) ∧ Aside0 (kq ≤ k2) ∧ Aside0 (Kd.S k41 41 w' w.heap.size (fun _ => True) v291 t289) ∧ Aside0 (Kd.R Kd.string 9 w' w.heap.size (fun k_ => some k_ ≠ (u8 : Value).ownBlock) u7 x7_2) ∧ Aside0 (Kd.R Kd.string 9 w' w.heap.size (fun k_ => some k_ ≠ (u7 : Value).ownBlock) u8 x8_2) ∧ Aside0 (w'.heap[gb288]? = some (.cells #[(.slice A0_0 l0_0.length c0_0), (.slice A0_1 l0_1.length c0_1), (.slice A0_2 l0_2.length c0_2), .int .i64 a0_3, .int .i64 a0_4] 25 (0, 0))) ∧ Aside0 (Below w.heap.size w w'))
     case atStart => exact ⟨(0), eqNow, H', ⟨Nat.le_refl _⟩, ⟨kdMv HO_5⟩, ⟨kdMv HO_7⟩, ⟨kdMv HO_8⟩, ⟨bkUp BK288.out⟩, ⟨belPut⟩⟩
     case round =>
      clear H'
      try clear c25
      try clear c28
      try clear c28b0
      try clear hcz10_0 hcz10_1 hcz10_2 hcz10_3 hcz10_4
      try clear hfz10_0 hfz10_1 hfz10_2 hfz10_3 hfz10_4
      obtain ⟨x10_3, rfl, HA, HK3, HO_5, HO_7, HO_8, BK288, HB⟩ := hrel
      cases gk with
      | zero => exact absurd HA.out (by simp [selvagelaw17_ApplyMoved.l1])
      | succ k3 =>
       have H := HA.out
       clear HA
       simp only [selvagelaw17_ApplyMoved.l1] at H
       replace H := itL H
       rcases H with ⟨-, c33b0, H⟩ | ⟨-, c33b0, H⟩
       ·replace H := itLn H
        rcases H with ⟨_, _, H⟩ | ⟨-, c34b0, H⟩
        ·cases H
        replace H := itEn H
        rcases H with ⟨c35, c35b0, c35b1, H⟩ | ⟨-, c35b0, c35b1, H⟩
        ·have H' := Aside0.mk H
         clear H
         have hcz39_0 := bkc (v := .slice A0_0 l0_0.length c0_0) BK288.out 0 rfl
         have hcz39_1 := bkc (v := .slice A0_1 l0_1.length c0_1) BK288.out 1 rfl
         have hcz39_2 := bkc (v := .slice A0_2 l0_2.length c0_2) BK288.out 2 rfl
         have hcz39_3 := bkc (v := .int .i64 a0_3) BK288.out 3 rfl
         have hcz39_4 := bkc (v := .int .i64 a0_4) BK288.out 4 rfl
         have hfz39_0 := blk_frozen BK288.out 0
         have hfz39_1 := blk_frozen BK288.out 1
         have hfz39_2 := blk_frozen BK288.out 2
         have hfz39_3 := blk_frozen BK288.out 3
         have hfz39_4 := blk_frozen BK288.out 4
         have p302 : 0 ≤ (x10_3 : Int) := ofDec
         have q302 : x10_3 < (l0_1.length : Int) := ofDec
         obtain ⟨ad302, e302, hx302_0⟩ := Kd.at_string HR0_1.out x10_3 p302 q302
         cases e302
         replace hx302_0 := cUp HB.out hx302_0
         replace p302 := eq_true p302
         replace q302 := eq_true q302
         go_wp2
         go_roundg k3
         case measure => have := HJ7.out; have := HK2.out; have := HK3.out; omega
         case rel => exact ⟨(wrap64 (x10_3 + 1)), eqNow, H', ⟨by have := HJ7.out; have := HK2.out; have := HK3.out; omega⟩, ⟨kdMv HO_5⟩, ⟨kdMv HO_7⟩, ⟨kdMv HO_8⟩, ⟨bkUp BK288.out⟩, ⟨belPut⟩⟩
        replace H := bdS H
        obtain ⟨t303, A36, H⟩ := H
        obtain rfl := Option.some.inj H
        have hcz37_0 := bkc (v := .slice A0_0 l0_0.length c0_0) BK288.out 0 rfl
        have hcz37_1 := bkc (v := .slice A0_1 l0_1.length c0_1) BK288.out 1 rfl
        have hcz37_2 := bkc (v := .slice A0_2 l0_2.length c0_2) BK288.out 2 rfl
        have hcz37_3 := bkc (v := .int .i64 a0_3) BK288.out 3 rfl
        have hcz37_4 := bkc (v := .int .i64 a0_4) BK288.out 4 rfl
        have hfz37_0 := blk_frozen BK288.out 0
        have hfz37_1 := blk_frozen BK288.out 1
        have hfz37_2 := blk_frozen BK288.out 2
        have hfz37_3 := blk_frozen BK288.out 3
        have hfz37_4 := blk_frozen BK288.out 4
        have p302 : 0 ≤ (x10_3 : Int) := ofDec
        have q302 : x10_3 < (l0_1.length : Int) := ofDec
        obtain ⟨ad302, e302, hx302_0⟩ := Kd.at_string HR0_1.out x10_3 p302 q302
        cases e302
        replace hx302_0 := cUp HB.out hx302_0
        replace p302 := eq_true p302
        replace q302 := eq_true q302
        go_wp2_with (first | ((with_reducible refine gate_callee (f := 8) rfl ?_); refine goL (some 77) Try.func8 #[] ?_; (with_reducible refine (selvagelaw17_sure.calls k3  t303 _ A36.out).mono ?_); rintro e w38 ⟨rfl, hb⟩; refine ⟨_, rfl, ?_⟩; replace HO_5 := Aside0.mk (Kd.S_below (by (with_reducible repeat (first | apply Kd.S_alloc | apply Kd.S_drewN | apply Kd.S_drew)); exact HO_5.out) hb); replace HO_7 := Aside0.mk (Kd.R_below (kdUp HO_7.out) hb); replace HO_8 := Aside0.mk (Kd.R_below (kdUp HO_8.out) hb); replace BK288 := bkD BK288 hb; replace HB := hbD HB hb; clear hb))
        go_ret
        exact ⟨by first | rfl | (simp [errW_none, errW_some] <;> rfl) | (simp only [← hji3, ← hji4, ← hji6, ← hji7]; first | rfl | (simp [errW_none, errW_some] <;> rfl)) | (simp [*, errW_none, errW_some] <;> rfl) | (simp only [i64_w, i32_w, u8_w]; first | rfl | (simp [errW_none, errW_some] <;> rfl)) | (simp only [bne_nil, beq_nil]; first | rfl | (simp <;> rfl)), belPut⟩
       replace H := itLn H
       rcases H with ⟨_, _, H⟩ | ⟨c40, -, H⟩
       ·cases H
       have LMc40 := Aside0.mk c40
       clear c40
       obtain ⟨y304, hy304⟩ : ∃ y_ : List ByteArray, y_ = (x7_2 ++ l0_1) := ⟨_, rfl⟩
       replace H : (if x8_2.length + l0_2.length < 8796093022208 then ((some (x8_2 ++ l0_2 : List ByteArray)).bind fun y307 => ((apply_Apply.f k3 y304 t289 0).bind fun bt310 => (if bt310.2.2.2.isNone = true then ((selvagelaw17_unlike.f k3 l0_1).bind fun t321 => (selvagelaw17_ApplyMoved.j3 k3 ji7 y307 bt310.1 bt310.2.1 bt310.2.2.1 (!t321))) else (selvagelaw17_ApplyMoved.j3 k3 ji7 y307 bt310.1 bt310.2.1 bt310.2.2.1 true)))) else (none)) = some r := by first | (rw [hy304]; with_reducible exact H) | (have H2_ := (Option.bind_some _ _).symm.trans H; rw [hy304]; with_reducible exact H2_) | (have H2_ := (Option.bind_some _ _).symm.trans H; with_reducible exact H2_) | with_reducible exact H | (rw [hy304]; exact H) | exact H
       have Ny304 := Aside0.mk hy304
       clear hy304
       replace H := itLn H
       rcases H with ⟨_, _, H⟩ | ⟨c41, -, H⟩
       ·cases H
       have LMc41 := Aside0.mk c41
       clear c41
       obtain ⟨y307, hy307⟩ : ∃ y_ : List ByteArray, y_ = (x8_2 ++ l0_2) := ⟨_, rfl⟩
       replace H : ((apply_Apply.f k3 y304 t289 0).bind fun bt310 => (if bt310.2.2.2.isNone = true then ((selvagelaw17_unlike.f k3 l0_1).bind fun t321 => (selvagelaw17_ApplyMoved.j3 k3 ji7 y307 bt310.1 bt310.2.1 bt310.2.2.1 (!t321))) else (selvagelaw17_ApplyMoved.j3 k3 ji7 y307 bt310.1 bt310.2.1 bt310.2.2.1 true))) = some r := by first | (rw [hy307]; with_reducible exact H) | (have H2_ := (Option.bind_some _ _).symm.trans H; rw [hy307]; with_reducible exact H2_) | (have H2_ := (Option.bind_some _ _).symm.trans H; with_reducible exact H2_) | with_reducible exact H | (rw [hy307]; exact H) | exact H
       have Ny307 := Aside0.mk hy307
       clear hy307
       replace H := bdS H
       obtain ⟨⟨t310, t311, t312, t313⟩, A42, H⟩ := H
       replace H : (if t313.isNone = true then ((selvagelaw17_unlike.f k3 l0_1).bind fun t321 => (selvagelaw17_ApplyMoved.j3 k3 ji7 y307 t310 t311 t312 (!t321))) else (selvagelaw17_ApplyMoved.j3 k3 ji7 y307 t310 t311 t312 true)) = some r := H
       have HC43 := Aside0.mk H
       clear H
       have hcz44_0 := bkc (v := .slice A0_0 l0_0.length c0_0) BK288.out 0 rfl
       have hcz44_1 := bkc (v := .slice A0_1 l0_1.length c0_1) BK288.out 1 rfl
       have hcz44_2 := bkc (v := .slice A0_2 l0_2.length c0_2) BK288.out 2 rfl
       have hcz44_3 := bkc (v := .int .i64 a0_3) BK288.out 3 rfl
       have hcz44_4 := bkc (v := .int .i64 a0_4) BK288.out 4 rfl
       have hfz44_0 := blk_frozen BK288.out 0
       have hfz44_1 := blk_frozen BK288.out 1
       have hfz44_2 := blk_frozen BK288.out 2
       have hfz44_3 := blk_frozen BK288.out 3
       have hfz44_4 := blk_frozen BK288.out 4
       go_upto_region 19 with (first | ((with_reducible refine gate_builtin (b := .append) (xs := #[.tmp 78, .tmp 80]) rfl ?_); (try (refine gate_guard (by rfl) ?_; dsimp only)); at_builtin; refine Kd.R_append_rows Kd.string (w0 := w) w.heap.size rfl (.tmp 78) (.tmp 80) 23 9 (.string ⟨#[]⟩) 16 rfl Try.underlying23 info9 rfl (by decide) (by omega) u7 x7_2 l0_1 _ _ _ (fun k_ => some k_ ≠ (u8 : Value).ownBlock) (fun _ => False) rfl rfl ?aO ?aR (fun _ _ h => h) (fun _ h => h.elim) ?aF ?aB ?aS ?aL ?_; (case aR => repeat (first | exact (Kd.C_below HR0_1.out HB.out) | (with_reducible refine Kd.C_alloc ?_ _) | (with_reducible refine Kd.C_drewN ?_ _) | (with_reducible refine Kd.C_drew ?_))); (case aB => exact (belPut)); (case aF => exact (fun k_ hk => Kd.fresh' (Kd.R_lt (kdUp HO_8.out)) k_ hk)); (case aO => exact (kdUp HO_7.out)); (case aS => exact (below_size (belPut))); (case aL => have := LMc40.out; omega); intro v305 w45 ho hb hg hat; rw [← Ny304.out] at ho; replace HO_5 := Aside0.mk (Kd.S_over' (by (with_reducible repeat (first | apply Kd.S_alloc | apply Kd.S_drewN | apply Kd.S_drew)); exact HO_5.out) (Kd.R_typed (kdUp HO_7.out)) (by decide) hg); replace HO_8 := Aside0.mk (Kd.R_after (ok := (fun _ => True)) (by (with_reducible repeat (first | apply Kd.R_alloc | apply Kd.R_drewN | apply Kd.R_drew)); exact Kd.R_mono HO_8.out (fun _ hk => ⟨trivial, hk⟩)) hg hat); replace BK288 := Aside0.mk (blk_grown (g := gb288) (o := .cells #[.slice A0_0 l0_0.length c0_0, .slice A0_1 l0_1.length c0_1, .slice A0_2 l0_2.length c0_2, .int .i64 a0_3, .int .i64 a0_4] 25 (0, 0)) (bkUp BK288.out) hg (Kd.R_ne HO_7.out BK288.out (by decide))); replace HB := Aside0.mk hb; have HO306 := Aside0.mk (ho); clear HO_7; clear ho hb hg hat; obtain ⟨hcz46_0, hcz46_1, hcz46_2, hcz46_3, hcz46_4, hfz46_0, hfz46_1, hfz46_2, hfz46_3, hfz46_4⟩ := bcf5 (W := w45) BK288) | ((with_reducible refine gate_builtin (b := .append) (xs := #[.tmp 82, .tmp 84]) rfl ?_); (try (refine gate_guard (by rfl) ?_; dsimp only)); at_builtin; refine Kd.R_append_rows Kd.string (w0 := w) w.heap.size rfl (.tmp 82) (.tmp 84) 23 9 (.string ⟨#[]⟩) 16 rfl Try.underlying23 info9 rfl (by decide) (by omega) u8 x8_2 l0_2 _ _ _ (fun k_ => some k_ ≠ (v305 : Value).ownBlock) (fun _ => False) rfl rfl ?aO ?aR (fun _ _ h => h) (fun _ h => h.elim) ?aF ?aB ?aS ?aL ?_; (case aR => repeat (first | exact (Kd.C_below HR0_2.out HB.out) | (with_reducible refine Kd.C_alloc ?_ _) | (with_reducible refine Kd.C_drewN ?_ _) | (with_reducible refine Kd.C_drew ?_))); (case aB => exact (belPut)); (case aF => exact (fun k_ hk => Kd.fresh' (Kd.R_lt (kdUp HO306.out)) k_ hk)); (case aO => exact (by (with_reducible repeat (first | apply Kd.R_alloc | apply Kd.R_drewN | apply Kd.R_drew)); exact Kd.R_mono HO_8.out (fun _ hk => hk.2))); (case aS => exact (below_size (belPut))); (case aL => have := LMc41.out; omega); intro v308 w47 ho hb hg hat; rw [← Ny307.out] at ho; replace HO_5 := Aside0.mk (Kd.S_over' (by (with_reducible repeat (first | apply Kd.S_alloc | apply Kd.S_drewN | apply Kd.S_drew)); exact HO_5.out) (Kd.R_typed (kdUp HO_8.out)) (by decide) hg); replace BK288 := Aside0.mk (blk_grown (g := gb288) (o := .cells #[.slice A0_0 l0_0.length c0_0, .slice A0_1 l0_1.length c0_1, .slice A0_2 l0_2.length c0_2, .int .i64 a0_3, .int .i64 a0_4] 25 (0, 0)) (bkUp BK288.out) hg (Kd.R_ne HO_8.out BK288.out (by decide))); replace HO306 := Aside0.mk (Kd.R_after (ok := (fun _ => True)) (by (with_reducible repeat (first | apply Kd.R_alloc | apply Kd.R_drewN | apply Kd.R_drew)); exact Kd.R_mono HO306.out (fun _ hk => ⟨trivial, hk⟩)) hg hat); replace HB := Aside0.mk hb; have HO309 := Aside0.mk (ho); clear HO_8; clear ho hb hg hat; obtain ⟨Ao48, co48, eo48⟩ := Kd.R_slice HO306.out; subst eo48; obtain ⟨Ao49, co49, eo49⟩ := Kd.S_slice HO_5.out; subst eo49) | ((with_reducible refine gate_callee (f := 9) rfl ?_); refine goL (some 89) Try.func9 #[.slice Ao48 y304.length co48, .slice Ao49 t289.length co49, .int .i64 0] ?_; (with_reducible refine (apply_Apply.calls k3 _ _ y304 _ _ t289 0 t310 t311 t312 t313 _ ?side1 ?side2 ?side3 ?side4 A42.out).mono ?_); (case side1 => repeat (first | exact (Kd.R_reads' HO306.out).2.2 | (with_reducible refine Kd.C_alloc ?_ _) | (with_reducible refine Kd.C_drewN ?_ _) | (with_reducible refine Kd.C_drew ?_))); (case side2 => exact (Kd.R_reads' HO306.out).2.1); (case side3 => repeat (first | exact (Kd.S_reads' HO_5.out).2.2 | (with_reducible refine Kd.C_alloc ?_ _) | (with_reducible refine Kd.C_drewN ?_ _) | (with_reducible refine Kd.C_drew ?_))); (case side4 => exact (Kd.S_reads' HO_5.out).2.1); rintro e w50 ⟨v314, v316, v318, rfl, ho0, ho1, ho2, hb⟩; refine ⟨_, rfl, ?_⟩; replace HO_5 := Aside0.mk (Kd.S_below (by (with_reducible repeat (first | apply Kd.S_alloc | apply Kd.S_drewN | apply Kd.S_drew)); exact HO_5.out) hb); have HO315 := Aside0.mk (Kd.R_lower (Kd.R_new' (Kd.R_new' ho0 (Kd.R_lt (kdUp HO306.out))) (Kd.R_lt (kdUp HO309.out))) (below_size (belPut))); replace HO306 := Aside0.mk (Kd.R_elder' (kdUp HO306.out) (Kd.R_base ho0) hb); replace HO309 := Aside0.mk (Kd.R_elder' (kdUp HO309.out) (Kd.R_base ho0) hb); have HO317 := Aside0.mk (Kd.R_lower ho1 (below_size (belPut))); have HO319 := Aside0.mk (Kd.R_lower ho2 (below_size (belPut))); replace BK288 := bkD BK288 hb; replace HB := hbD HB hb; clear hb; (try clear ho0); (try clear ho1); (try clear ho2); (try simp only [errW_none, errW_some])))
       (try simp only [Act.put, List.setIfInBounds_toArray, List.set_cons_zero, List.set_cons_succ])
       go_cut [101] (fun v101 wc => ∃ (kq : Nat) (x101_42 : Bool), v101 = .bool x101_42 ∧ Aside0 (selvagelaw17_ApplyMoved.j3 kq ji7 y307 t310 t311 t312 x101_42 = some r) ∧ Aside0 (kq ≤ k3) ∧ Aside0 (Kd.R Kd.string 9 wc w.heap.size (fun k_ => some k_ ≠ (v314 : Value).ownBlock) v308 y307) ∧ Aside0 (Kd.R Kd.string 9 wc w.heap.size (fun k_ => some k_ ≠ (v308 : Value).ownBlock) v314 t310) ∧ Aside0 (Kd.R k45 45 wc w.heap.size (fun _ => True) v316 t311) ∧ Aside0 (Kd.R (Kd.int .i64) 3 wc w.heap.size (fun _ => True) v318 t312) ∧ Aside0 (wc.heap[gb288]? = some (.cells #[(.slice A0_0 l0_0.length c0_0), (.slice A0_1 l0_1.length c0_1), (.slice A0_2 l0_2.length c0_2), .int .i64 a0_3, .int .i64 a0_4] 25 (0, 0))) ∧ Aside0 (Below w.heap.size w wc))
       case first =>
        have H := HC43.out
        clear HC43
        rcases t313 with _ | q320
        ·have H1 : ((selvagelaw17_unlike.f k3 l0_1).bind fun t321 => (selvagelaw17_ApplyMoved.j3 k3 ji7 y307 t310 t311 t312 (!t321))) = some r := by rw [if_pos (show (none : Option Int).isNone = true by rfl)] at H; exact H
         clear H
         have H := H1
         clear H1
         try simp only [errW_none, errW_some]
         replace H := bdS H
         obtain ⟨t321, A51, H⟩ := H
         have H' := Aside0.mk H
         clear H
         have hcz52_0 := bkc (v := .slice A0_0 l0_0.length c0_0) BK288.out 0 rfl
         have hcz52_1 := bkc (v := .slice A0_1 l0_1.length c0_1) BK288.out 1 rfl
         have hcz52_2 := bkc (v := .slice A0_2 l0_2.length c0_2) BK288.out 2 rfl
         have hcz52_3 := bkc (v := .int .i64 a0_3) BK288.out 3 rfl
         have hcz52_4 := bkc (v := .int .i64 a0_4) BK288.out 4 rfl
         have hfz52_0 := blk_frozen BK288.out 0
         have hfz52_1 := blk_frozen BK288.out 1
         have hfz52_2 := blk_frozen BK288.out 2
         have hfz52_3 := blk_frozen BK288.out 3
         have hfz52_4 := blk_frozen BK288.out 4
         go_wp2_with (first | (go_at_call 13; (with_reducible refine (selvagelaw17_unlike.calls k3 _ _ l0_1 t321 _ ?side1 ?side2 A51.out).mono ?_); (case side1 => exact kcU HR0_1 HB); (case side2 => exact HC0_1.out); rintro e w' ⟨rfl, ⟨nd, rfl⟩⟩))
         go_meet
         case rel => exact ⟨_, (!t321), eqNow, H', ⟨by have := HJ7.out; have := HK2.out; have := HK3.out; first | omega | exact Nat.le_refl _⟩, ⟨by (with_reducible repeat (first | apply Kd.R_alloc | apply Kd.R_drewN | apply Kd.R_drew)); exact Kd.R_mono HO309.out (fun _ hk => hk.2)⟩, ⟨by (with_reducible repeat (first | apply Kd.R_alloc | apply Kd.R_drewN | apply Kd.R_drew)); exact Kd.R_mono HO315.out (fun _ hk => hk.2)⟩, ⟨kdMv HO317⟩, ⟨kdMv HO319⟩, ⟨bkUp BK288.out⟩, ⟨belPut⟩⟩
        have H1 : (selvagelaw17_ApplyMoved.j3 k3 ji7 y307 t310 t311 t312 true) = some r := by rw [if_neg (show ¬ (some q320).isNone = true by simp)] at H; exact H
        clear H
        have H := H1
        clear H1
        try simp only [errW_none, errW_some]
        have H' := Aside0.mk H
        clear H
        go_wp2
        go_meet
        case rel => exact ⟨_, (true), eqNow, H', ⟨by have := HJ7.out; have := HK2.out; have := HK3.out; first | omega | exact Nat.le_refl _⟩, ⟨by (with_reducible repeat (first | apply Kd.R_alloc | apply Kd.R_drewN | apply Kd.R_drew)); exact Kd.R_mono HO309.out (fun _ hk => hk.2)⟩, ⟨by (with_reducible repeat (first | apply Kd.R_alloc | apply Kd.R_drewN | apply Kd.R_drew)); exact Kd.R_mono HO315.out (fun _ hk => hk.2)⟩, ⟨kdMv HO317⟩, ⟨kdMv HO319⟩, ⟨bkUp BK288.out⟩, ⟨belPut⟩⟩
       case rest =>
        clear HC43
        try clear c25
        try clear c28
        try clear c28b0
        try clear c33
        try clear c33b0
        try clear c40
        try clear c41
        try clear hcz10_0 hcz10_1 hcz10_2 hcz10_3 hcz10_4
        try clear hcz44_0 hcz44_1 hcz44_2 hcz44_3 hcz44_4
        try clear hcz46_0 hcz46_1 hcz46_2 hcz46_3 hcz46_4
        try clear hfz10_0 hfz10_1 hfz10_2 hfz10_3 hfz10_4
        try clear hfz44_0 hfz44_1 hfz44_2 hfz44_3 hfz44_4
        try clear hfz46_0 hfz46_1 hfz46_2 hfz46_3 hfz46_4
        obtain ⟨kq, x101_42, rfl, HA, HJ42, HO_8, HO_11, HO_12, HO_13, BK288, HB⟩ := hcut
        cases kq with
        | zero => exact absurd HA.out (by simp [selvagelaw17_ApplyMoved.j3])
        | succ kj42 =>
         have H := HA.out
         clear HA
         simp only [selvagelaw17_ApplyMoved.j3] at H
         replace H := itB H
         rcases H with ⟨rfl, H⟩ | ⟨rfl, H⟩
         ·replace H := bdS H
          obtain ⟨t322, A54, H⟩ := H
          obtain rfl := Option.some.inj H
          go_wp2_with (first | ((with_reducible refine gate_callee (f := 8) rfl ?_); refine goL (some 102) Try.func8 #[] ?_; (with_reducible refine (selvagelaw17_sure.calls kj42  t322 _ A54.out).mono ?_); rintro e w55 ⟨rfl, hb⟩; refine ⟨_, rfl, ?_⟩; replace HO_8 := Aside0.mk (Kd.R_below (kdUp HO_8.out) hb); replace HO_11 := Aside0.mk (Kd.R_below (kdUp HO_11.out) hb); replace HO_12 := Aside0.mk (Kd.R_below (kdUp HO_12.out) hb); replace HO_13 := Aside0.mk (Kd.R_below (kdUp HO_13.out) hb); replace BK288 := bkD BK288 hb; replace HB := hbD HB hb; clear hb))
          go_ret
          exact ⟨by first | rfl | (simp [errW_none, errW_some] <;> rfl) | (simp only [← hji3, ← hji4, ← hji6, ← hji7]; first | rfl | (simp [errW_none, errW_some] <;> rfl)) | (simp [*, errW_none, errW_some] <;> rfl) | (simp only [i64_w, i32_w, u8_w]; first | rfl | (simp [errW_none, errW_some] <;> rfl)) | (simp only [bne_nil, beq_nil]; first | rfl | (simp <;> rfl)), belPut⟩
         have H' := Aside0.mk H
         clear H
         go_wp2
         go_loopg [15] kj42 (fun kq v15 w' => ∃ (x15_5 : Int), v15 = .int .i64 x15_5 ∧ Aside0 (selvagelaw17_ApplyMoved.l2 kq ji7 y307 t310 t311 t312 x15_5 = some r) ∧ Aside0 (kq ≤ kj42) ∧ Aside0 (Kd.R Kd.string 9 w' w.heap.size (fun k_ => some k_ ≠ (v314 : Value).ownBlock) v308 y307) ∧ Aside0 (Kd.R Kd.string 9 w' w.heap.size (fun k_ => some k_ ≠ (v308 : Value).ownBlock) v314 t310) ∧ Aside0 (Kd.R k45 45 w' w.heap.size (fun _ => True) v316 t311) ∧ Aside0 (Kd.R (Kd.int .i64) 3 w' w.heap.size (fun _ => True) v318 t312) ∧ Aside0 (w'.heap[gb288]? = some (.cells #[(.slice A0_0 l0_0.length c0_0), (.slice A0_1 l0_1.length c0_1), (.slice A0_2 l0_2.length c0_2), .int .i64 a0_3, .int .i64 a0_4] 25 (0, 0))) ∧ Aside0 (Below w.heap.size w w'))
         case atStart => exact ⟨(0), eqNow, H', ⟨Nat.le_refl _⟩, ⟨kdMv HO_8⟩, ⟨kdMv HO_11⟩, ⟨kdMv HO_12⟩, ⟨kdMv HO_13⟩, ⟨bkUp BK288.out⟩, ⟨belPut⟩⟩
         case round =>
          clear H'
          try clear c25
          try clear c28
          try clear c28b0
          try clear c33
          try clear c33b0
          try clear c40
          try clear c41
          try clear c53
          try clear hcz10_0 hcz10_1 hcz10_2 hcz10_3 hcz10_4
          try clear hcz44_0 hcz44_1 hcz44_2 hcz44_3 hcz44_4
          try clear hcz46_0 hcz46_1 hcz46_2 hcz46_3 hcz46_4
          try clear hfz10_0 hfz10_1 hfz10_2 hfz10_3 hfz10_4
          try clear hfz44_0 hfz44_1 hfz44_2 hfz44_3 hfz44_4
          try clear hfz46_0 hfz46_1 hfz46_2 hfz46_3 hfz46_4
          obtain ⟨x15_5, rfl, HA, HK5, HO_8, HO_11, HO_12, HO_13, BK288, HB⟩ := hrel
          cases gk with
          | zero => exact absurd HA.out (by simp [selvagelaw17_ApplyMoved.l2])
          | succ k5 =>
           have H := HA.out
           clear HA
           simp only [selvagelaw17_ApplyMoved.l2] at H
           replace H := itL H
           rcases H with ⟨-, c56b0, H⟩ | ⟨-, c56b0, H⟩
           ·replace H := itLn H
            rcases H with ⟨_, _, H⟩ | ⟨-, c57b0, H⟩
            ·cases H
            replace H := itEn H
            rcases H with ⟨_, _, _, H⟩ | ⟨-, c58b0, c58b1, H⟩
            ·cases H
            replace H := itEn H
            rcases H with ⟨_, _, _, H⟩ | ⟨-, c59b0, c59b1, H⟩
            ·cases H
            have H' := Aside0.mk H
            clear H
            obtain ⟨Ao60, co60, eo60⟩ := Kd.R_slice HO_12.out
            subst eo60
            have p323 : 0 ≤ (x15_5 : Int) := ofDec
            have q323 : x15_5 < (t311.length : Int) := ofDec
            obtain ⟨ad323, e323, hx323_0, hx323_1, hx323_2, hx323_3⟩ := at_T45 (Kd.R_reads' HO_12.out).2.2 x15_5 p323 q323
            cases e323
            replace p323 := eq_true p323
            replace q323 := eq_true q323
            have p324 : 0 ≤ (x15_5 : Int) := ofDec
            have q324 : x15_5 < (t311.length : Int) := ofDec
            obtain ⟨ad324, e324, hx324_0, hx324_1, hx324_2, hx324_3⟩ := at_T45 (Kd.R_reads' HO_12.out).2.2 x15_5 p324 q324
            obtain rfl : ad323 = ad324 := (by injection e324)
            replace p324 := eq_true p324
            replace q324 := eq_true q324
            go_wp2
            go_roundg k5
            case measure => have := HJ7.out; have := HK2.out; have := HK3.out; have := HJ42.out; have := HK5.out; omega
            case rel => exact ⟨(wrap64 (x15_5 + 1)), eqNow, H', ⟨by have := HJ7.out; have := HK2.out; have := HK3.out; have := HJ42.out; have := HK5.out; omega⟩, ⟨kdMv HO_8⟩, ⟨kdMv HO_11⟩, ⟨kdMv HO_12⟩, ⟨kdMv HO_13⟩, ⟨bkUp BK288.out⟩, ⟨belPut⟩⟩
           replace H := bdS H
           obtain ⟨t325, A63, H⟩ := H
           by_cases c64 : t325 = true
           rotate_left
           ·rw [if_neg c64] at H
            exact absurd H (by simp)
           subst c64
           have H1 : (if (t312.length : Int) = 0 then ((selvagelaw17_sure.f k5).bind fun t326 => (some t326)) else (none)) = some r := by rw [if_pos rfl] at H; exact H
           clear H
           have H := H1
           clear H1
           replace H := itEn H
           rcases H with ⟨_, _, _, H⟩ | ⟨-, c65b0, c65b1, H⟩
           ·cases H
           replace H := bdS H
           obtain ⟨t326, A66, H⟩ := H
           obtain rfl := Option.some.inj H
           obtain ⟨Ao67, co67, eo67⟩ := Kd.R_slice HO_12.out
           subst eo67
           obtain ⟨Ao68, co68, eo68⟩ := Kd.R_slice HO_11.out
           subst eo68
           obtain ⟨Ao69, co69, eo69⟩ := Kd.R_slice HO_8.out
           subst eo69
           go_wp2_with (first | ((with_reducible refine gate_callee (f := 10) rfl ?_); refine goL (some 126) Try.func10 #[.slice Ao68 t310.length co68, .slice Ao69 y307.length co69] ?_; (with_reducible refine (selvagelaw17_same.calls k5 _ _ t310 _ _ y307 true _ ?side1 ?side2 ?side3 ?side4 A63.out).mono ?_); (case side1 => repeat (first | exact (Kd.R_reads' HO_11.out).2.2 | (with_reducible refine Kd.C_alloc ?_ _) | (with_reducible refine Kd.C_drewN ?_ _) | (with_reducible refine Kd.C_drew ?_))); (case side2 => exact (Kd.R_reads' HO_11.out).2.1); (case side3 => repeat (first | exact (Kd.R_reads' HO_8.out).2.2 | (with_reducible refine Kd.C_alloc ?_ _) | (with_reducible refine Kd.C_drewN ?_ _) | (with_reducible refine Kd.C_drew ?_))); (case side4 => exact (Kd.R_reads' HO_8.out).2.1); rintro e w' ⟨rfl, ⟨nd, rfl⟩⟩; refine ⟨_, rfl, ?_⟩; obtain ⟨Ao70, co70, eo70⟩ := Kd.R_slice HO_13.out; subst eo70) | (go_at_call 8; (with_reducible refine (selvagelaw17_sure.calls k5  t326 _ A66.out).mono ?_); rintro e w71 ⟨rfl, hb⟩; replace HO_8 := Aside0.mk (Kd.R_below (kdUp HO_8.out) hb); replace HO_11 := Aside0.mk (Kd.R_below (kdUp HO_11.out) hb); replace HO_12 := Aside0.mk (Kd.R_below (kdUp HO_12.out) hb); replace HO_13 := Aside0.mk (Kd.R_below (kdUp HO_13.out) hb); replace BK288 := bkD BK288 hb; replace HB := hbD HB hb; clear hb))
           go_ret
           exact ⟨by first | rfl | (simp [errW_none, errW_some] <;> rfl) | (simp only [← hji3, ← hji4, ← hji6, ← hji7]; first | rfl | (simp [errW_none, errW_some] <;> rfl)) | (simp [*, errW_none, errW_some] <;> rfl) | (simp only [i64_w, i32_w, u8_w]; first | rfl | (simp [errW_none, errW_some] <;> rfl)) | (simp only [bne_nil, beq_nil]; first | rfl | (simp <;> rfl)), belPut⟩
end Go.Proofs.Ytkoagpnoaibdjaa.Pp
