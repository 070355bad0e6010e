import Derived.Test.YtecjoofjiockkaaGreatDoorESt
import Derived.Test.YtecjoofjiockkaaGreatDoorPp0
import Derived.Test.YtecjoofjiockkaaGreatDoorPp4
set_option linter.unusedVariables false
set_option linter.unusedSimpArgs false
namespace Go.Proofs.YtecjoofjiockkaaGreatDoor.Pp
open Go.RowKit Go.Proofs.YtecjoofjiockkaaGreatDoor.Ext Go.Proofs.YtecjoofjiockkaaGreatDoorW.PrintWords Go.Proofs.YtecjoofjiockkaaGreatDoorW.PrintLast Go.Proofs.YtecjoofjiockkaaGreatDoorW.PrintMore
attribute [local go_sem] max2_int min2_int max_two min_two max_three min_three max_four min_four
mutual
def selvageref10_rows.l0 : Nat → List (S53) → Bool → Bool → Bool → Int → Option (Bool)
 | 0, _, _, _, _, _ => none
 | k + 1, x0, x3, x4, x5, x6 => if x6 < (x0.length : Int) then (if 0 ≤ x6 then ((selvageref10_old.f ((rd_T53 x0 x6).f0) ((rd_T53 x0 x6).f1)).bind fun t130 => (if t130 = true then ((selvageref10_line.f k ((rd_T53 x0 x6).f1)).bind fun t131 => (if t131 = true then ((selvageref10_old.f ((rd_T53 x0 x6).f0) ((rd_T53 x0 x6).f1)).bind fun t132 => (if t132 = true then (if x3 = true then (selvageref10_rows.j1 k x0 x3 x4 x5 x6 true ((rd_T53 x0 x6).f0) ((rd_T53 x0 x6).f1)) else ((selvageref10_fresh.f ((rd_T53 x0 x6).f0) ((rd_T53 x0 x6).f1)).bind fun t133 => (if t133 = true then (selvageref10_rows.j1 k x0 x3 x4 x5 x6 x4 ((rd_T53 x0 x6).f0) ((rd_T53 x0 x6).f1)) else (selvageref10_rows.j1 k x0 x3 x4 x5 x6 false ((rd_T53 x0 x6).f0) ((rd_T53 x0 x6).f1))))) else ((selvageref10_fresh.f ((rd_T53 x0 x6).f0) ((rd_T53 x0 x6).f1)).bind fun t134 => (if t134 = true then (selvageref10_rows.j1 k x0 x3 x4 x5 x6 x4 ((rd_T53 x0 x6).f0) ((rd_T53 x0 x6).f1)) else (selvageref10_rows.j1 k x0 x3 x4 x5 x6 false ((rd_T53 x0 x6).f0) ((rd_T53 x0 x6).f1)))))) else (selvageref10_rows.j1 k x0 x3 x4 x5 x6 true ((rd_T53 x0 x6).f0) ((rd_T53 x0 x6).f1)))) else ((selvageref10_fresh.f ((rd_T53 x0 x6).f0) ((rd_T53 x0 x6).f1)).bind fun t135 => (if t135 = true then ((selvageref10_line.f k ((rd_T53 x0 x6).f1)).bind fun t136 => (if t136 = true then ((selvageref10_old.f ((rd_T53 x0 x6).f0) ((rd_T53 x0 x6).f1)).bind fun t137 => (if t137 = true then (if x3 = true then (selvageref10_rows.j1 k x0 x3 x4 x5 x6 true ((rd_T53 x0 x6).f0) ((rd_T53 x0 x6).f1)) else ((selvageref10_fresh.f ((rd_T53 x0 x6).f0) ((rd_T53 x0 x6).f1)).bind fun t138 => (if t138 = true then (selvageref10_rows.j1 k x0 x3 x4 x5 x6 x4 ((rd_T53 x0 x6).f0) ((rd_T53 x0 x6).f1)) else (selvageref10_rows.j1 k x0 x3 x4 x5 x6 false ((rd_T53 x0 x6).f0) ((rd_T53 x0 x6).f1))))) else ((selvageref10_fresh.f ((rd_T53 x0 x6).f0) ((rd_T53 x0 x6).f1)).bind fun t139 => (if t139 = true then (selvageref10_rows.j1 k x0 x3 x4 x5 x6 x4 ((rd_T53 x0 x6).f0) ((rd_T53 x0 x6).f1)) else (selvageref10_rows.j1 k x0 x3 x4 x5 x6 false ((rd_T53 x0 x6).f0) ((rd_T53 x0 x6).f1)))))) else (selvageref10_rows.j1 k x0 x3 x4 x5 x6 true ((rd_T53 x0 x6).f0) ((rd_T53 x0 x6).f1)))) else (selvageref10_rows.j1 k x0 x3 x4 x5 x6 true ((rd_T53 x0 x6).f0) ((rd_T53 x0 x6).f1)))))) else (none)) else (some x5)
def selvageref10_rows.j1 : Nat → List (S53) → Bool → Bool → Bool → Int → Bool → Int → ByteArray → Option (Bool)
 | 0, _, _, _, _, _, _, _, _ => none
 | k + 1, x0, x3, x4, x5, x6, x46, x130000, x130001 => if x46 = true then (some false) else ((selvageref01_Whole.f x130001).bind fun t140 => (if x3 = true then (if x4 = true then (if x5 = true then (selvageref10_rows.l0 k x0 true true true (wrap64 (x6 + 1))) else (selvageref10_rows.l0 k x0 true true (x130000 != 1) (wrap64 (x6 + 1)))) else (if t140 = true then (if x5 = true then (selvageref10_rows.l0 k x0 true false true (wrap64 (x6 + 1))) else (selvageref10_rows.l0 k x0 true false (x130000 != 1) (wrap64 (x6 + 1)))) else ((selvageref10_fresh.f x130000 x130001).bind fun t141 => (if x5 = true then (selvageref10_rows.l0 k x0 true t141 true (wrap64 (x6 + 1))) else (selvageref10_rows.l0 k x0 true t141 (x130000 != 1) (wrap64 (x6 + 1))))))) else (if t140 = true then (if x4 = true then (if x5 = true then (selvageref10_rows.l0 k x0 false true true (wrap64 (x6 + 1))) else (selvageref10_rows.l0 k x0 false true (x130000 != 1) (wrap64 (x6 + 1)))) else (if x5 = true then (selvageref10_rows.l0 k x0 false false true (wrap64 (x6 + 1))) else (selvageref10_rows.l0 k x0 false false (x130000 != 1) (wrap64 (x6 + 1))))) else ((selvageref10_old.f x130000 x130001).bind fun t142 => (if x4 = true then (if x5 = true then (selvageref10_rows.l0 k x0 t142 true true (wrap64 (x6 + 1))) else (selvageref10_rows.l0 k x0 t142 true (x130000 != 1) (wrap64 (x6 + 1)))) else ((selvageref10_fresh.f x130000 x130001).bind fun t143 => (if x5 = true then (selvageref10_rows.l0 k x0 t142 t143 true (wrap64 (x6 + 1))) else (selvageref10_rows.l0 k x0 t142 t143 (x130000 != 1) (wrap64 (x6 + 1))))))))))
end
def selvageref10_rows.f (k : Nat) (l0 : List (S53)) : Option (Bool) := selvageref10_rows.l0 k l0 false false false 0
theorem selvageref10_rows.mono_l : ∀ k, (∀ y0 y1 y2 y3 y4, LeO (selvageref10_rows.l0 k y0 y1 y2 y3 y4) (selvageref10_rows.l0 (k + 1) y0 y1 y2 y3 y4)) ∧ (∀ y0 y1 y2 y3 y4 y5 y6 y7, LeO (selvageref10_rows.j1 k y0 y1 y2 y3 y4 y5 y6 y7) (selvageref10_rows.j1 (k + 1) y0 y1 y2 y3 y4 y5 y6 y7))
 | 0 => ⟨fun _ _ _ _ _ r h => by simp [selvageref10_rows.l0] at h, fun _ _ _ _ _ _ _ _ r h => by simp [selvageref10_rows.j1] at h⟩
 | k + 1 => by
  obtain ⟨ih0, ih1⟩ := selvageref10_rows.mono_l k
  refine ⟨?_, ?_⟩
  ·intro y0 y1 y2 y3 y4
   unfold selvageref10_rows.l0
   repeat' first
   | (with_reducible exact ih0 _ _ _ _ _)
   | (with_reducible exact ih1 _ _ _ _ _ _ _ _)
   | (with_reducible exact selvageref10_line.mono _ _)
   | (with_reducible exact LeO.refl _)
   | (with_reducible exact LeO.none _)
   | (with_reducible refine LeO.ite ?_ ?_)
   | (with_reducible refine LeO.bind ?_ (fun _ => ?_))
   | exact ih0 _ _ _ _ _
   | exact ih1 _ _ _ _ _ _ _ _
   | exact selvageref10_line.mono _ _
   | exact LeO.none _
   | refine LeO.ite ?_ ?_
   | refine LeO.bind ?_ (fun _ => ?_)
  ·intro y0 y1 y2 y3 y4 y5 y6 y7
   unfold selvageref10_rows.j1
   repeat' first
   | (with_reducible exact ih0 _ _ _ _ _)
   | (with_reducible exact ih1 _ _ _ _ _ _ _ _)
   | (with_reducible exact selvageref10_line.mono _ _)
   | (with_reducible exact LeO.refl _)
   | (with_reducible exact LeO.none _)
   | (with_reducible refine LeO.ite ?_ ?_)
   | (with_reducible refine LeO.bind ?_ (fun _ => ?_))
   | exact ih0 _ _ _ _ _
   | exact ih1 _ _ _ _ _ _ _ _
   | exact selvageref10_line.mono _ _
   | exact LeO.none _
   | refine LeO.ite ?_ ?_
   | refine LeO.bind ?_ (fun _ => ?_)
theorem selvageref10_rows.mono : ∀ a0 k, LeO (selvageref10_rows.f k a0) (selvageref10_rows.f (k + 1) a0) := by
 intro a0 k
 obtain ⟨ih0, ih1⟩ := selvageref10_rows.mono_l k
 unfold selvageref10_rows.f
 repeat' first
   | (with_reducible exact ih0 _ _ _ _ _)
   | (with_reducible exact ih1 _ _ _ _ _ _ _ _)
   | (with_reducible exact selvageref10_line.mono _ _)
   | (with_reducible exact LeO.refl _)
   | (with_reducible exact LeO.none _)
   | (with_reducible refine LeO.ite ?_ ?_)
   | (with_reducible refine LeO.bind ?_ (fun _ => ?_))
   | exact ih0 _ _ _ _ _
   | exact ih1 _ _ _ _ _ _ _ _
   | exact selvageref10_line.mono _ _
   | exact LeO.none _
   | refine LeO.ite ?_ ?_
   | refine LeO.bind ?_ (fun _ => ?_)
set_option maxHeartbeats 80000000 in
set_option maxRecDepth 100000 in
theorem selvageref10_rows.calls (k : Nat) (A0 : Option Addr) (c0 : Nat) (l0 : List (S53)) (r : Bool) (w : World) (hr0 : Kd.C k53 w A0 l0.length l0) (hc0 : l0.length ≤ c0) (h : selvageref10_rows.f k l0 = some r) :
  Calls Tryz.prog 44 #[.slice A0 l0.length c0] w fun e w' => e = .returned (.bool r) ∧ Below w.heap.size w w' := by
 have hu53 := Tryz.underlying53
 have HR0 := Aside0.mk hr0
 have HC0 := Aside0.mk hc0
 clear hr0 hc0
 have HB := Aside0.mk (Below.refl w.heap.size w)
 have H := h
 clear h
 unfold selvageref10_rows.f at H
 have H' := Aside0.mk H
 clear H
 go_enter Tryz.func44, Tryz.ntmps44
 try simp only [List.append_eq, List.cons_append, List.nil_append]
 go_wp2
 go_loopg [3, 4, 5, 6] k (fun kq v3 v4 v5 v6 w' => ∃ (x3_1 : Bool) (x4_1 : Bool) (x5_1 : Bool) (x6_1 : Int), v3 = .bool x3_1 ∧ v4 = .bool x4_1 ∧ v5 = .bool x5_1 ∧ v6 = .int .i64 x6_1 ∧ Aside0 (selvageref10_rows.l0 kq l0 x3_1 x4_1 x5_1 x6_1 = some r) ∧ Aside0 (kq ≤ k) ∧ Aside0 (Below w.heap.size w w'))
 case atStart => exact ⟨(false), (false), (false), (0), eqNow, eqNow, eqNow, eqNow, H', ⟨Nat.le_refl _⟩, ⟨belNow⟩⟩
 case round =>
  clear H'
  obtain ⟨x3_1, x4_1, x5_1, x6_1, rfl, rfl, rfl, rfl, HA, HK1, HB⟩ := hrel
  cases gk with
  | zero => exact absurd HA.out (by simp [selvageref10_rows.l0])
  | succ k1 =>
   have H := HA.out
   clear HA
   simp only [selvageref10_rows.l0] at H
   replace H := itLn H
   rcases H with ⟨-, c2b0, H⟩ | ⟨-, c2b0, H⟩
   ·obtain rfl := Option.some.inj H
    go_wp2
    go_ret
    exact ⟨eqEnd, belNow⟩
   replace H := itLn H
   rcases H with ⟨_, _, H⟩ | ⟨-, c3b0, H⟩
   ·cases H
   have HC4 := Aside0.mk H
   clear H
   obtain ⟨ad128, rfl, hx128_0, hx128_1, p128, q128⟩ := atU_T53 HR0 HB x6_1
   go_upto_region 6 with (first | ((with_reducible refine gate_dst (N := 7) rfl ?_); refine boxEv (N := 7) #[.int .i64 0, .string (⟨#[]⟩ : ByteArray)] 53 ?_; intro gb129 hg w5 hbox hb; have BK129 := Aside0.mk hbox; have GW129 := gwN HB hg; have GE129 := GW129; replace HB := hbD HB hb; clear hb hbox hg; obtain ⟨hcz6_0, hcz6_1, hfz6_0, hfz6_1⟩ := bcf2 (W := w5) BK129))
   (try simp only [Act.put, List.setIfInBounds_toArray, List.set_cons_zero, List.set_cons_succ])
   go_cut [46] (fun v46 wc => ∃ (kq : Nat) (x46_3 : Bool), v46 = .bool x46_3 ∧ Aside0 (selvageref10_rows.j1 kq l0 x3_1 x4_1 x5_1 x6_1 x46_3 ((rd_T53 l0 x6_1).f0) ((rd_T53 l0 x6_1).f1) = some r) ∧ Aside0 (kq ≤ k1) ∧ Aside0 (wc.heap[gb129]? = some (.cells #[.int .i64 ((rd_T53 l0 x6_1).f0), .string ((rd_T53 l0 x6_1).f1)] 53 (0, 0))) ∧ Aside0 (Below w.heap.size w wc))
   case first =>
    have H := HC4.out
    clear HC4
    replace H := bdS H
    obtain ⟨t130, A7, H⟩ := H
    replace H := itB H
    rcases H with ⟨rfl, H⟩ | ⟨rfl, H⟩
    ·replace H := bdS H
     obtain ⟨t131, A9, H⟩ := H
     replace H := itBn H
     rcases H with ⟨rfl, H⟩ | ⟨rfl, H⟩
     ·have H' := Aside0.mk H
      clear H
      have hcz46_0 := bkc (v := .int .i64 0) BK129.out 0 rfl
      have hcz46_1 := bkc (v := .string (⟨#[]⟩ : ByteArray)) BK129.out 1 rfl
      have hfz46_0 := blk_frozen BK129.out 0
      have hfz46_1 := blk_frozen BK129.out 1
      go_wp2_with (first | ((with_reducible refine gate_callee (f := 68) rfl ?_); refine goL (some 20) Tryz.func68 #[.agg #[.int .i64 ((rd_T53 l0 x6_1).f0), .string ((rd_T53 l0 x6_1).f1)]] ?_; (with_reducible refine (selvageref10_old.calls ((rd_T53 l0 x6_1).f0) ((rd_T53 l0 x6_1).f1) true _ A7.out).mono ?_); rintro e w47 ⟨rfl, hb⟩; refine ⟨_, rfl, ?_⟩; replace BK129 := bkD BK129 hb; replace HB := hbD HB hb; clear hb; obtain ⟨hcz48_0, hcz48_1, hfz48_0, hfz48_1⟩ := bcf2 (W := w47) BK129) | (go_at_call 88; (with_reducible refine (selvageref10_line.calls k1 ((rd_T53 l0 x6_1).f1) false _ A9.out).mono ?_); rintro e w' ⟨rfl, ⟨nd, rfl⟩⟩))
      go_meet
      case rel => exact ⟨_, (true), eqNow, H', ⟨by have := HK1.out; first | omega | exact Nat.le_refl _⟩, ⟨bkUp BK129.out⟩, ⟨belPut⟩⟩
     replace H := bdS H
     obtain ⟨t132, A11, H⟩ := H
     replace H := itBn H
     rcases H with ⟨rfl, H⟩ | ⟨rfl, H⟩
     ·replace H := bdS H
      obtain ⟨t134, A32, H⟩ := H
      replace H := itB H
      rcases H with ⟨rfl, H⟩ | ⟨rfl, H⟩
      ·have H' := Aside0.mk H
       clear H
       have hcz34_0 := bkc (v := .int .i64 0) BK129.out 0 rfl
       have hcz34_1 := bkc (v := .string (⟨#[]⟩ : ByteArray)) BK129.out 1 rfl
       have hfz34_0 := blk_frozen BK129.out 0
       have hfz34_1 := blk_frozen BK129.out 1
       go_wp2_with (first | ((with_reducible refine gate_callee (f := 68) rfl ?_); refine goL (some 20) Tryz.func68 #[.agg #[.int .i64 ((rd_T53 l0 x6_1).f0), .string ((rd_T53 l0 x6_1).f1)]] ?_; (with_reducible refine (selvageref10_old.calls ((rd_T53 l0 x6_1).f0) ((rd_T53 l0 x6_1).f1) true _ A7.out).mono ?_); rintro e w35 ⟨rfl, hb⟩; refine ⟨_, rfl, ?_⟩; replace BK129 := bkD BK129 hb; replace HB := hbD HB hb; clear hb; obtain ⟨hcz36_0, hcz36_1, hfz36_0, hfz36_1⟩ := bcf2 (W := w35) BK129) | (go_at_call 88; (with_reducible refine (selvageref10_line.calls k1 ((rd_T53 l0 x6_1).f1) true _ A9.out).mono ?_); rintro e w' ⟨rfl, ⟨nd, rfl⟩⟩) | (go_at_call 68; (with_reducible refine (selvageref10_old.calls ((rd_T53 l0 x6_1).f0) ((rd_T53 l0 x6_1).f1) false _ A11.out).mono ?_); rintro e w37 ⟨rfl, hb⟩; replace BK129 := bkD BK129 hb; replace HB := hbD HB hb; clear hb; obtain ⟨hcz38_0, hcz38_1, hfz38_0, hfz38_1⟩ := bcf2 (W := w37) BK129) | (go_at_call 69; (with_reducible refine (selvageref10_fresh.calls ((rd_T53 l0 x6_1).f0) ((rd_T53 l0 x6_1).f1) true _ A32.out).mono ?_); rintro e w39 ⟨rfl, hb⟩; replace BK129 := bkD BK129 hb; replace HB := hbD HB hb; clear hb))
       go_meet
       case rel => exact ⟨_, (x4_1), eqNow, H', ⟨by have := HK1.out; first | omega | exact Nat.le_refl _⟩, ⟨bkUp BK129.out⟩, ⟨belPut⟩⟩
      have H' := Aside0.mk H
      clear H
      have hcz40_0 := bkc (v := .int .i64 0) BK129.out 0 rfl
      have hcz40_1 := bkc (v := .string (⟨#[]⟩ : ByteArray)) BK129.out 1 rfl
      have hfz40_0 := blk_frozen BK129.out 0
      have hfz40_1 := blk_frozen BK129.out 1
      go_wp2_with (first | ((with_reducible refine gate_callee (f := 68) rfl ?_); refine goL (some 20) Tryz.func68 #[.agg #[.int .i64 ((rd_T53 l0 x6_1).f0), .string ((rd_T53 l0 x6_1).f1)]] ?_; (with_reducible refine (selvageref10_old.calls ((rd_T53 l0 x6_1).f0) ((rd_T53 l0 x6_1).f1) true _ A7.out).mono ?_); rintro e w41 ⟨rfl, hb⟩; refine ⟨_, rfl, ?_⟩; replace BK129 := bkD BK129 hb; replace HB := hbD HB hb; clear hb; obtain ⟨hcz42_0, hcz42_1, hfz42_0, hfz42_1⟩ := bcf2 (W := w41) BK129) | (go_at_call 88; (with_reducible refine (selvageref10_line.calls k1 ((rd_T53 l0 x6_1).f1) true _ A9.out).mono ?_); rintro e w' ⟨rfl, ⟨nd, rfl⟩⟩) | (go_at_call 68; (with_reducible refine (selvageref10_old.calls ((rd_T53 l0 x6_1).f0) ((rd_T53 l0 x6_1).f1) false _ A11.out).mono ?_); rintro e w43 ⟨rfl, hb⟩; replace BK129 := bkD BK129 hb; replace HB := hbD HB hb; clear hb; obtain ⟨hcz44_0, hcz44_1, hfz44_0, hfz44_1⟩ := bcf2 (W := w43) BK129) | (go_at_call 69; (with_reducible refine (selvageref10_fresh.calls ((rd_T53 l0 x6_1).f0) ((rd_T53 l0 x6_1).f1) false _ A32.out).mono ?_); rintro e w45 ⟨rfl, hb⟩; replace BK129 := bkD BK129 hb; replace HB := hbD HB hb; clear hb))
      go_meet
      case rel => exact ⟨_, (false), eqNow, H', ⟨by have := HK1.out; first | omega | exact Nat.le_refl _⟩, ⟨bkUp BK129.out⟩, ⟨belPut⟩⟩
     replace H := itB H
     rcases H with ⟨rfl, H⟩ | ⟨rfl, H⟩
     ·have H' := Aside0.mk H
      clear H
      have hcz14_0 := bkc (v := .int .i64 0) BK129.out 0 rfl
      have hcz14_1 := bkc (v := .string (⟨#[]⟩ : ByteArray)) BK129.out 1 rfl
      have hfz14_0 := blk_frozen BK129.out 0
      have hfz14_1 := blk_frozen BK129.out 1
      go_wp2_with (first | ((with_reducible refine gate_callee (f := 68) rfl ?_); refine goL (some 20) Tryz.func68 #[.agg #[.int .i64 ((rd_T53 l0 x6_1).f0), .string ((rd_T53 l0 x6_1).f1)]] ?_; (with_reducible refine (selvageref10_old.calls ((rd_T53 l0 x6_1).f0) ((rd_T53 l0 x6_1).f1) true _ A7.out).mono ?_); rintro e w15 ⟨rfl, hb⟩; refine ⟨_, rfl, ?_⟩; replace BK129 := bkD BK129 hb; replace HB := hbD HB hb; clear hb; obtain ⟨hcz16_0, hcz16_1, hfz16_0, hfz16_1⟩ := bcf2 (W := w15) BK129) | (go_at_call 88; (with_reducible refine (selvageref10_line.calls k1 ((rd_T53 l0 x6_1).f1) true _ A9.out).mono ?_); rintro e w' ⟨rfl, ⟨nd, rfl⟩⟩) | (go_at_call 68; (with_reducible refine (selvageref10_old.calls ((rd_T53 l0 x6_1).f0) ((rd_T53 l0 x6_1).f1) true _ A11.out).mono ?_); rintro e w17 ⟨rfl, hb⟩; replace BK129 := bkD BK129 hb; replace HB := hbD HB hb; clear hb))
      go_meet
      case rel => exact ⟨_, (true), eqNow, H', ⟨by have := HK1.out; first | omega | exact Nat.le_refl _⟩, ⟨bkUp BK129.out⟩, ⟨belPut⟩⟩
     replace H := bdS H
     obtain ⟨t133, A18, H⟩ := H
     replace H := itB H
     rcases H with ⟨rfl, H⟩ | ⟨rfl, H⟩
     ·have H' := Aside0.mk H
      clear H
      have hcz20_0 := bkc (v := .int .i64 0) BK129.out 0 rfl
      have hcz20_1 := bkc (v := .string (⟨#[]⟩ : ByteArray)) BK129.out 1 rfl
      have hfz20_0 := blk_frozen BK129.out 0
      have hfz20_1 := blk_frozen BK129.out 1
      go_wp2_with (first | ((with_reducible refine gate_callee (f := 68) rfl ?_); refine goL (some 20) Tryz.func68 #[.agg #[.int .i64 ((rd_T53 l0 x6_1).f0), .string ((rd_T53 l0 x6_1).f1)]] ?_; (with_reducible refine (selvageref10_old.calls ((rd_T53 l0 x6_1).f0) ((rd_T53 l0 x6_1).f1) true _ A7.out).mono ?_); rintro e w21 ⟨rfl, hb⟩; refine ⟨_, rfl, ?_⟩; replace BK129 := bkD BK129 hb; replace HB := hbD HB hb; clear hb; obtain ⟨hcz22_0, hcz22_1, hfz22_0, hfz22_1⟩ := bcf2 (W := w21) BK129) | (go_at_call 88; (with_reducible refine (selvageref10_line.calls k1 ((rd_T53 l0 x6_1).f1) true _ A9.out).mono ?_); rintro e w' ⟨rfl, ⟨nd, rfl⟩⟩) | (go_at_call 68; (with_reducible refine (selvageref10_old.calls ((rd_T53 l0 x6_1).f0) ((rd_T53 l0 x6_1).f1) true _ A11.out).mono ?_); rintro e w23 ⟨rfl, hb⟩; replace BK129 := bkD BK129 hb; replace HB := hbD HB hb; clear hb; obtain ⟨hcz24_0, hcz24_1, hfz24_0, hfz24_1⟩ := bcf2 (W := w23) BK129) | (go_at_call 69; (with_reducible refine (selvageref10_fresh.calls ((rd_T53 l0 x6_1).f0) ((rd_T53 l0 x6_1).f1) true _ A18.out).mono ?_); rintro e w25 ⟨rfl, hb⟩; replace BK129 := bkD BK129 hb; replace HB := hbD HB hb; clear hb))
      go_meet
      case rel => exact ⟨_, (x4_1), eqNow, H', ⟨by have := HK1.out; first | omega | exact Nat.le_refl _⟩, ⟨bkUp BK129.out⟩, ⟨belPut⟩⟩
     have H' := Aside0.mk H
     clear H
     have hcz26_0 := bkc (v := .int .i64 0) BK129.out 0 rfl
     have hcz26_1 := bkc (v := .string (⟨#[]⟩ : ByteArray)) BK129.out 1 rfl
     have hfz26_0 := blk_frozen BK129.out 0
     have hfz26_1 := blk_frozen BK129.out 1
     go_wp2_with (first | ((with_reducible refine gate_callee (f := 68) rfl ?_); refine goL (some 20) Tryz.func68 #[.agg #[.int .i64 ((rd_T53 l0 x6_1).f0), .string ((rd_T53 l0 x6_1).f1)]] ?_; (with_reducible refine (selvageref10_old.calls ((rd_T53 l0 x6_1).f0) ((rd_T53 l0 x6_1).f1) true _ A7.out).mono ?_); rintro e w27 ⟨rfl, hb⟩; refine ⟨_, rfl, ?_⟩; replace BK129 := bkD BK129 hb; replace HB := hbD HB hb; clear hb; obtain ⟨hcz28_0, hcz28_1, hfz28_0, hfz28_1⟩ := bcf2 (W := w27) BK129) | (go_at_call 88; (with_reducible refine (selvageref10_line.calls k1 ((rd_T53 l0 x6_1).f1) true _ A9.out).mono ?_); rintro e w' ⟨rfl, ⟨nd, rfl⟩⟩) | (go_at_call 68; (with_reducible refine (selvageref10_old.calls ((rd_T53 l0 x6_1).f0) ((rd_T53 l0 x6_1).f1) true _ A11.out).mono ?_); rintro e w29 ⟨rfl, hb⟩; replace BK129 := bkD BK129 hb; replace HB := hbD HB hb; clear hb; obtain ⟨hcz30_0, hcz30_1, hfz30_0, hfz30_1⟩ := bcf2 (W := w29) BK129) | (go_at_call 69; (with_reducible refine (selvageref10_fresh.calls ((rd_T53 l0 x6_1).f0) ((rd_T53 l0 x6_1).f1) false _ A18.out).mono ?_); rintro e w31 ⟨rfl, hb⟩; replace BK129 := bkD BK129 hb; replace HB := hbD HB hb; clear hb))
     go_meet
     case rel => exact ⟨_, (false), eqNow, H', ⟨by have := HK1.out; first | omega | exact Nat.le_refl _⟩, ⟨bkUp BK129.out⟩, ⟨belPut⟩⟩
    replace H := bdS H
    obtain ⟨t135, A49, H⟩ := H
    replace H := itBn H
    rcases H with ⟨rfl, H⟩ | ⟨rfl, H⟩
    ·have H' := Aside0.mk H
     clear H
     have hcz103_0 := bkc (v := .int .i64 0) BK129.out 0 rfl
     have hcz103_1 := bkc (v := .string (⟨#[]⟩ : ByteArray)) BK129.out 1 rfl
     have hfz103_0 := blk_frozen BK129.out 0
     have hfz103_1 := blk_frozen BK129.out 1
     go_wp2_with (first | ((with_reducible refine gate_callee (f := 68) rfl ?_); refine goL (some 20) Tryz.func68 #[.agg #[.int .i64 ((rd_T53 l0 x6_1).f0), .string ((rd_T53 l0 x6_1).f1)]] ?_; (with_reducible refine (selvageref10_old.calls ((rd_T53 l0 x6_1).f0) ((rd_T53 l0 x6_1).f1) false _ A7.out).mono ?_); rintro e w104 ⟨rfl, hb⟩; refine ⟨_, rfl, ?_⟩; replace BK129 := bkD BK129 hb; replace HB := hbD HB hb; clear hb; obtain ⟨hcz105_0, hcz105_1, hfz105_0, hfz105_1⟩ := bcf2 (W := w104) BK129) | (go_at_call 69; (with_reducible refine (selvageref10_fresh.calls ((rd_T53 l0 x6_1).f0) ((rd_T53 l0 x6_1).f1) false _ A49.out).mono ?_); rintro e w106 ⟨rfl, hb⟩; replace BK129 := bkD BK129 hb; replace HB := hbD HB hb; clear hb))
     go_meet
     case rel => exact ⟨_, (true), eqNow, H', ⟨by have := HK1.out; first | omega | exact Nat.le_refl _⟩, ⟨bkUp BK129.out⟩, ⟨belPut⟩⟩
    replace H := bdS H
    obtain ⟨t136, A51, H⟩ := H
    replace H := itBn H
    rcases H with ⟨rfl, H⟩ | ⟨rfl, H⟩
    ·have H' := Aside0.mk H
     clear H
     have hcz98_0 := bkc (v := .int .i64 0) BK129.out 0 rfl
     have hcz98_1 := bkc (v := .string (⟨#[]⟩ : ByteArray)) BK129.out 1 rfl
     have hfz98_0 := blk_frozen BK129.out 0
     have hfz98_1 := blk_frozen BK129.out 1
     go_wp2_with (first | ((with_reducible refine gate_callee (f := 68) rfl ?_); refine goL (some 20) Tryz.func68 #[.agg #[.int .i64 ((rd_T53 l0 x6_1).f0), .string ((rd_T53 l0 x6_1).f1)]] ?_; (with_reducible refine (selvageref10_old.calls ((rd_T53 l0 x6_1).f0) ((rd_T53 l0 x6_1).f1) false _ A7.out).mono ?_); rintro e w99 ⟨rfl, hb⟩; refine ⟨_, rfl, ?_⟩; replace BK129 := bkD BK129 hb; replace HB := hbD HB hb; clear hb; obtain ⟨hcz100_0, hcz100_1, hfz100_0, hfz100_1⟩ := bcf2 (W := w99) BK129) | (go_at_call 69; (with_reducible refine (selvageref10_fresh.calls ((rd_T53 l0 x6_1).f0) ((rd_T53 l0 x6_1).f1) true _ A49.out).mono ?_); rintro e w101 ⟨rfl, hb⟩; replace BK129 := bkD BK129 hb; replace HB := hbD HB hb; clear hb; obtain ⟨hcz102_0, hcz102_1, hfz102_0, hfz102_1⟩ := bcf2 (W := w101) BK129) | (go_at_call 88; (with_reducible refine (selvageref10_line.calls k1 ((rd_T53 l0 x6_1).f1) false _ A51.out).mono ?_); rintro e w' ⟨rfl, ⟨nd, rfl⟩⟩))
     go_meet
     case rel => exact ⟨_, (true), eqNow, H', ⟨by have := HK1.out; first | omega | exact Nat.le_refl _⟩, ⟨bkUp BK129.out⟩, ⟨belPut⟩⟩
    replace H := bdS H
    obtain ⟨t137, A53, H⟩ := H
    replace H := itBn H
    rcases H with ⟨rfl, H⟩ | ⟨rfl, H⟩
    ·replace H := bdS H
     obtain ⟨t139, A80, H⟩ := H
     replace H := itBn H
     rcases H with ⟨rfl, H⟩ | ⟨rfl, H⟩
     ·have H' := Aside0.mk H
      clear H
      have hcz90_0 := bkc (v := .int .i64 0) BK129.out 0 rfl
      have hcz90_1 := bkc (v := .string (⟨#[]⟩ : ByteArray)) BK129.out 1 rfl
      have hfz90_0 := blk_frozen BK129.out 0
      have hfz90_1 := blk_frozen BK129.out 1
      exact absurd (A49.out.symm.trans A80.out) (by simp)
     have H' := Aside0.mk H
     clear H
     have hcz82_0 := bkc (v := .int .i64 0) BK129.out 0 rfl
     have hcz82_1 := bkc (v := .string (⟨#[]⟩ : ByteArray)) BK129.out 1 rfl
     have hfz82_0 := blk_frozen BK129.out 0
     have hfz82_1 := blk_frozen BK129.out 1
     go_wp2_with (first | ((with_reducible refine gate_callee (f := 68) rfl ?_); refine goL (some 20) Tryz.func68 #[.agg #[.int .i64 ((rd_T53 l0 x6_1).f0), .string ((rd_T53 l0 x6_1).f1)]] ?_; (with_reducible refine (selvageref10_old.calls ((rd_T53 l0 x6_1).f0) ((rd_T53 l0 x6_1).f1) false _ A7.out).mono ?_); rintro e w83 ⟨rfl, hb⟩; refine ⟨_, rfl, ?_⟩; replace BK129 := bkD BK129 hb; replace HB := hbD HB hb; clear hb; obtain ⟨hcz84_0, hcz84_1, hfz84_0, hfz84_1⟩ := bcf2 (W := w83) BK129) | (go_at_call 69; (with_reducible refine (selvageref10_fresh.calls ((rd_T53 l0 x6_1).f0) ((rd_T53 l0 x6_1).f1) true _ A49.out).mono ?_); rintro e w85 ⟨rfl, hb⟩; replace BK129 := bkD BK129 hb; replace HB := hbD HB hb; clear hb; obtain ⟨hcz86_0, hcz86_1, hfz86_0, hfz86_1⟩ := bcf2 (W := w85) BK129) | (go_at_call 88; (with_reducible refine (selvageref10_line.calls k1 ((rd_T53 l0 x6_1).f1) true _ A51.out).mono ?_); rintro e w' ⟨rfl, ⟨nd, rfl⟩⟩) | (go_at_call 68; (with_reducible refine (selvageref10_old.calls ((rd_T53 l0 x6_1).f0) ((rd_T53 l0 x6_1).f1) false _ A53.out).mono ?_); rintro e w87 ⟨rfl, hb⟩; replace BK129 := bkD BK129 hb; replace HB := hbD HB hb; clear hb; obtain ⟨hcz88_0, hcz88_1, hfz88_0, hfz88_1⟩ := bcf2 (W := w87) BK129))
     go_meet
     case rel => exact ⟨_, (x4_1), eqNow, H', ⟨by have := HK1.out; first | omega | exact Nat.le_refl _⟩, ⟨bkUp BK129.out⟩, ⟨belPut⟩⟩
    replace H := itB H
    rcases H with ⟨rfl, H⟩ | ⟨rfl, H⟩
    ·have H' := Aside0.mk H
     clear H
     have hcz56_0 := bkc (v := .int .i64 0) BK129.out 0 rfl
     have hcz56_1 := bkc (v := .string (⟨#[]⟩ : ByteArray)) BK129.out 1 rfl
     have hfz56_0 := blk_frozen BK129.out 0
     have hfz56_1 := blk_frozen BK129.out 1
     go_wp2_with (first | ((with_reducible refine gate_callee (f := 68) rfl ?_); refine goL (some 20) Tryz.func68 #[.agg #[.int .i64 ((rd_T53 l0 x6_1).f0), .string ((rd_T53 l0 x6_1).f1)]] ?_; (with_reducible refine (selvageref10_old.calls ((rd_T53 l0 x6_1).f0) ((rd_T53 l0 x6_1).f1) false _ A7.out).mono ?_); rintro e w57 ⟨rfl, hb⟩; refine ⟨_, rfl, ?_⟩; replace BK129 := bkD BK129 hb; replace HB := hbD HB hb; clear hb; obtain ⟨hcz58_0, hcz58_1, hfz58_0, hfz58_1⟩ := bcf2 (W := w57) BK129) | (go_at_call 69; (with_reducible refine (selvageref10_fresh.calls ((rd_T53 l0 x6_1).f0) ((rd_T53 l0 x6_1).f1) true _ A49.out).mono ?_); rintro e w59 ⟨rfl, hb⟩; replace BK129 := bkD BK129 hb; replace HB := hbD HB hb; clear hb; obtain ⟨hcz60_0, hcz60_1, hfz60_0, hfz60_1⟩ := bcf2 (W := w59) BK129) | (go_at_call 88; (with_reducible refine (selvageref10_line.calls k1 ((rd_T53 l0 x6_1).f1) true _ A51.out).mono ?_); rintro e w' ⟨rfl, ⟨nd, rfl⟩⟩) | (go_at_call 68; (with_reducible refine (selvageref10_old.calls ((rd_T53 l0 x6_1).f0) ((rd_T53 l0 x6_1).f1) true _ A53.out).mono ?_); rintro e w61 ⟨rfl, hb⟩; replace BK129 := bkD BK129 hb; replace HB := hbD HB hb; clear hb))
     go_meet
     case rel => exact ⟨_, (true), eqNow, H', ⟨by have := HK1.out; first | omega | exact Nat.le_refl _⟩, ⟨bkUp BK129.out⟩, ⟨belPut⟩⟩
    replace H := bdS H
    obtain ⟨t138, A62, H⟩ := H
    replace H := itBn H
    rcases H with ⟨rfl, H⟩ | ⟨rfl, H⟩
    ·have H' := Aside0.mk H
     clear H
     have hcz72_0 := bkc (v := .int .i64 0) BK129.out 0 rfl
     have hcz72_1 := bkc (v := .string (⟨#[]⟩ : ByteArray)) BK129.out 1 rfl
     have hfz72_0 := blk_frozen BK129.out 0
     have hfz72_1 := blk_frozen BK129.out 1
     exact absurd (A49.out.symm.trans A62.out) (by simp)
    have H' := Aside0.mk H
    clear H
    have hcz64_0 := bkc (v := .int .i64 0) BK129.out 0 rfl
    have hcz64_1 := bkc (v := .string (⟨#[]⟩ : ByteArray)) BK129.out 1 rfl
    have hfz64_0 := blk_frozen BK129.out 0
    have hfz64_1 := blk_frozen BK129.out 1
    go_wp2_with (first | ((with_reducible refine gate_callee (f := 68) rfl ?_); refine goL (some 20) Tryz.func68 #[.agg #[.int .i64 ((rd_T53 l0 x6_1).f0), .string ((rd_T53 l0 x6_1).f1)]] ?_; (with_reducible refine (selvageref10_old.calls ((rd_T53 l0 x6_1).f0) ((rd_T53 l0 x6_1).f1) false _ A7.out).mono ?_); rintro e w65 ⟨rfl, hb⟩; refine ⟨_, rfl, ?_⟩; replace BK129 := bkD BK129 hb; replace HB := hbD HB hb; clear hb; obtain ⟨hcz66_0, hcz66_1, hfz66_0, hfz66_1⟩ := bcf2 (W := w65) BK129) | (go_at_call 69; (with_reducible refine (selvageref10_fresh.calls ((rd_T53 l0 x6_1).f0) ((rd_T53 l0 x6_1).f1) true _ A49.out).mono ?_); rintro e w67 ⟨rfl, hb⟩; replace BK129 := bkD BK129 hb; replace HB := hbD HB hb; clear hb; obtain ⟨hcz68_0, hcz68_1, hfz68_0, hfz68_1⟩ := bcf2 (W := w67) BK129) | (go_at_call 88; (with_reducible refine (selvageref10_line.calls k1 ((rd_T53 l0 x6_1).f1) true _ A51.out).mono ?_); rintro e w' ⟨rfl, ⟨nd, rfl⟩⟩) | (go_at_call 68; (with_reducible refine (selvageref10_old.calls ((rd_T53 l0 x6_1).f0) ((rd_T53 l0 x6_1).f1) true _ A53.out).mono ?_); rintro e w69 ⟨rfl, hb⟩; replace BK129 := bkD BK129 hb; replace HB := hbD HB hb; clear hb; obtain ⟨hcz70_0, hcz70_1, hfz70_0, hfz70_1⟩ := bcf2 (W := w69) BK129))
    go_meet
    case rel => exact ⟨_, (x4_1), eqNow, H', ⟨by have := HK1.out; first | omega | exact Nat.le_refl _⟩, ⟨bkUp BK129.out⟩, ⟨belPut⟩⟩
   case rest =>
    clear HC4
    try clear c2
    try clear c2b0
    try clear c3
    try clear c3b0
    try clear hcz6_0 hcz6_1
    try clear hfz6_0 hfz6_1
    try clear hx128_0
    try clear hx128_1
    try clear p128
    try clear q128
    obtain ⟨kq, x46_3, rfl, HA, HJ3, BK129, HB⟩ := hcut
    cases kq with
    | zero => exact absurd HA.out (by simp [selvageref10_rows.j1])
    | succ kj3 =>
     have H := HA.out
     clear HA
     simp only [selvageref10_rows.j1] at H
     replace H := itB H
     rcases H with ⟨rfl, H⟩ | ⟨rfl, H⟩
     ·obtain rfl := Option.some.inj H
      go_wp2
      go_ret
      exact ⟨eqEnd, belPut⟩
     replace H := bdS H
     obtain ⟨t140, A108, H⟩ := H
     replace H := itB H
     rcases H with ⟨rfl, H⟩ | ⟨rfl, H⟩
     ·replace H := itB H
      rcases H with ⟨rfl, H⟩ | ⟨rfl, H⟩
      ·replace H := itB H
       rcases H with ⟨rfl, H⟩ | ⟨rfl, H⟩
       ·have H' := Aside0.mk H
        clear H
        have hcz112_0 := bkc (v := .int .i64 ((rd_T53 l0 x6_1).f0)) BK129.out 0 rfl
        have hcz112_1 := bkc (v := .string ((rd_T53 l0 x6_1).f1)) BK129.out 1 rfl
        have hfz112_0 := blk_frozen BK129.out 0
        have hfz112_1 := blk_frozen BK129.out 1
        go_wp2_with (((with_reducible refine gate_callee (f := 58) rfl ?_); refine goL (some 49) Tryz.func58 #[.string ((rd_T53 l0 x6_1).f1)] ?_; (with_reducible refine (selvageref01_Whole.calls ((rd_T53 l0 x6_1).f1) t140 _ A108.out).mono ?_); rintro e w' ⟨rfl, ⟨nd, rfl⟩⟩; refine ⟨_, rfl, ?_⟩))
        go_roundg kj3
        case measure => have := HK1.out; have := HJ3.out; omega
        case rel => exact ⟨(true), (true), (true), (wrap64 (x6_1 + 1)), eqNow, eqNow, eqNow, eqNow, H', ⟨by have := HK1.out; have := HJ3.out; omega⟩, ⟨belPut⟩⟩
       have H' := Aside0.mk H
       clear H
       have hcz113_0 := bkc (v := .int .i64 ((rd_T53 l0 x6_1).f0)) BK129.out 0 rfl
       have hcz113_1 := bkc (v := .string ((rd_T53 l0 x6_1).f1)) BK129.out 1 rfl
       have hfz113_0 := blk_frozen BK129.out 0
       have hfz113_1 := blk_frozen BK129.out 1
       go_wp2_with (((with_reducible refine gate_callee (f := 58) rfl ?_); refine goL (some 49) Tryz.func58 #[.string ((rd_T53 l0 x6_1).f1)] ?_; (with_reducible refine (selvageref01_Whole.calls ((rd_T53 l0 x6_1).f1) t140 _ A108.out).mono ?_); rintro e w' ⟨rfl, ⟨nd, rfl⟩⟩; refine ⟨_, rfl, ?_⟩))
       go_roundg kj3
       case measure => have := HK1.out; have := HJ3.out; omega
       case rel => exact ⟨(true), (true), ((((rd_T53 l0 x6_1).f0) != 1)), (wrap64 (x6_1 + 1)), eqNow, eqNow, eqNow, eqNow, H', ⟨by have := HK1.out; have := HJ3.out; omega⟩, ⟨belPut⟩⟩
      replace H := itB H
      rcases H with ⟨rfl, H⟩ | ⟨rfl, H⟩
      ·replace H := itB H
       rcases H with ⟨rfl, H⟩ | ⟨rfl, H⟩
       ·have H' := Aside0.mk H
        clear H
        have hcz116_0 := bkc (v := .int .i64 ((rd_T53 l0 x6_1).f0)) BK129.out 0 rfl
        have hcz116_1 := bkc (v := .string ((rd_T53 l0 x6_1).f1)) BK129.out 1 rfl
        have hfz116_0 := blk_frozen BK129.out 0
        have hfz116_1 := blk_frozen BK129.out 1
        go_wp2_with (((with_reducible refine gate_callee (f := 58) rfl ?_); refine goL (some 49) Tryz.func58 #[.string ((rd_T53 l0 x6_1).f1)] ?_; (with_reducible refine (selvageref01_Whole.calls ((rd_T53 l0 x6_1).f1) true _ A108.out).mono ?_); rintro e w' ⟨rfl, ⟨nd, rfl⟩⟩; refine ⟨_, rfl, ?_⟩))
        go_roundg kj3
        case measure => have := HK1.out; have := HJ3.out; omega
        case rel => exact ⟨(true), (false), (true), (wrap64 (x6_1 + 1)), eqNow, eqNow, eqNow, eqNow, H', ⟨by have := HK1.out; have := HJ3.out; omega⟩, ⟨belPut⟩⟩
       have H' := Aside0.mk H
       clear H
       have hcz117_0 := bkc (v := .int .i64 ((rd_T53 l0 x6_1).f0)) BK129.out 0 rfl
       have hcz117_1 := bkc (v := .string ((rd_T53 l0 x6_1).f1)) BK129.out 1 rfl
       have hfz117_0 := blk_frozen BK129.out 0
       have hfz117_1 := blk_frozen BK129.out 1
       go_wp2_with (((with_reducible refine gate_callee (f := 58) rfl ?_); refine goL (some 49) Tryz.func58 #[.string ((rd_T53 l0 x6_1).f1)] ?_; (with_reducible refine (selvageref01_Whole.calls ((rd_T53 l0 x6_1).f1) true _ A108.out).mono ?_); rintro e w' ⟨rfl, ⟨nd, rfl⟩⟩; refine ⟨_, rfl, ?_⟩))
       go_roundg kj3
       case measure => have := HK1.out; have := HJ3.out; omega
       case rel => exact ⟨(true), (false), ((((rd_T53 l0 x6_1).f0) != 1)), (wrap64 (x6_1 + 1)), eqNow, eqNow, eqNow, eqNow, H', ⟨by have := HK1.out; have := HJ3.out; omega⟩, ⟨belPut⟩⟩
      replace H := bdS H
      obtain ⟨t141, A118, H⟩ := H
      replace H := itB H
      rcases H with ⟨rfl, H⟩ | ⟨rfl, H⟩
      ·have H' := Aside0.mk H
       clear H
       have hcz120_0 := bkc (v := .int .i64 ((rd_T53 l0 x6_1).f0)) BK129.out 0 rfl
       have hcz120_1 := bkc (v := .string ((rd_T53 l0 x6_1).f1)) BK129.out 1 rfl
       have hfz120_0 := blk_frozen BK129.out 0
       have hfz120_1 := blk_frozen BK129.out 1
       go_wp2_with (first | ((with_reducible refine gate_callee (f := 58) rfl ?_); refine goL (some 49) Tryz.func58 #[.string ((rd_T53 l0 x6_1).f1)] ?_; (with_reducible refine (selvageref01_Whole.calls ((rd_T53 l0 x6_1).f1) false _ A108.out).mono ?_); rintro e w' ⟨rfl, ⟨nd, rfl⟩⟩; refine ⟨_, rfl, ?_⟩) | (go_at_call 69; (with_reducible refine (selvageref10_fresh.calls ((rd_T53 l0 x6_1).f0) ((rd_T53 l0 x6_1).f1) t141 _ A118.out).mono ?_); rintro e w121 ⟨rfl, hb⟩; replace BK129 := bkD BK129 hb; replace HB := hbD HB hb; clear hb))
       go_roundg kj3
       case measure => have := HK1.out; have := HJ3.out; omega
       case rel => exact ⟨(true), (t141), (true), (wrap64 (x6_1 + 1)), eqNow, eqNow, eqNow, eqNow, H', ⟨by have := HK1.out; have := HJ3.out; omega⟩, ⟨belPut⟩⟩
      have H' := Aside0.mk H
      clear H
      have hcz122_0 := bkc (v := .int .i64 ((rd_T53 l0 x6_1).f0)) BK129.out 0 rfl
      have hcz122_1 := bkc (v := .string ((rd_T53 l0 x6_1).f1)) BK129.out 1 rfl
      have hfz122_0 := blk_frozen BK129.out 0
      have hfz122_1 := blk_frozen BK129.out 1
      go_wp2_with (first | ((with_reducible refine gate_callee (f := 58) rfl ?_); refine goL (some 49) Tryz.func58 #[.string ((rd_T53 l0 x6_1).f1)] ?_; (with_reducible refine (selvageref01_Whole.calls ((rd_T53 l0 x6_1).f1) false _ A108.out).mono ?_); rintro e w' ⟨rfl, ⟨nd, rfl⟩⟩; refine ⟨_, rfl, ?_⟩) | (go_at_call 69; (with_reducible refine (selvageref10_fresh.calls ((rd_T53 l0 x6_1).f0) ((rd_T53 l0 x6_1).f1) t141 _ A118.out).mono ?_); rintro e w123 ⟨rfl, hb⟩; replace BK129 := bkD BK129 hb; replace HB := hbD HB hb; clear hb; obtain ⟨hcz124_0, hcz124_1, hfz124_0, hfz124_1⟩ := bcf2 (W := w123) BK129))
      go_roundg kj3
      case measure => have := HK1.out; have := HJ3.out; omega
      case rel => exact ⟨(true), (t141), ((((rd_T53 l0 x6_1).f0) != 1)), (wrap64 (x6_1 + 1)), eqNow, eqNow, eqNow, eqNow, H', ⟨by have := HK1.out; have := HJ3.out; omega⟩, ⟨belPut⟩⟩
     replace H := itB H
     rcases H with ⟨rfl, H⟩ | ⟨rfl, H⟩
     ·replace H := itB H
      rcases H with ⟨rfl, H⟩ | ⟨rfl, H⟩
      ·replace H := itB H
       rcases H with ⟨rfl, H⟩ | ⟨rfl, H⟩
       ·have H' := Aside0.mk H
        clear H
        have hcz128_0 := bkc (v := .int .i64 ((rd_T53 l0 x6_1).f0)) BK129.out 0 rfl
        have hcz128_1 := bkc (v := .string ((rd_T53 l0 x6_1).f1)) BK129.out 1 rfl
        have hfz128_0 := blk_frozen BK129.out 0
        have hfz128_1 := blk_frozen BK129.out 1
        go_wp2_with (((with_reducible refine gate_callee (f := 58) rfl ?_); refine goL (some 49) Tryz.func58 #[.string ((rd_T53 l0 x6_1).f1)] ?_; (with_reducible refine (selvageref01_Whole.calls ((rd_T53 l0 x6_1).f1) true _ A108.out).mono ?_); rintro e w' ⟨rfl, ⟨nd, rfl⟩⟩; refine ⟨_, rfl, ?_⟩))
        go_roundg kj3
        case measure => have := HK1.out; have := HJ3.out; omega
        case rel => exact ⟨(false), (true), (true), (wrap64 (x6_1 + 1)), eqNow, eqNow, eqNow, eqNow, H', ⟨by have := HK1.out; have := HJ3.out; omega⟩, ⟨belPut⟩⟩
       have H' := Aside0.mk H
       clear H
       have hcz129_0 := bkc (v := .int .i64 ((rd_T53 l0 x6_1).f0)) BK129.out 0 rfl
       have hcz129_1 := bkc (v := .string ((rd_T53 l0 x6_1).f1)) BK129.out 1 rfl
       have hfz129_0 := blk_frozen BK129.out 0
       have hfz129_1 := blk_frozen BK129.out 1
       go_wp2_with (((with_reducible refine gate_callee (f := 58) rfl ?_); refine goL (some 49) Tryz.func58 #[.string ((rd_T53 l0 x6_1).f1)] ?_; (with_reducible refine (selvageref01_Whole.calls ((rd_T53 l0 x6_1).f1) true _ A108.out).mono ?_); rintro e w' ⟨rfl, ⟨nd, rfl⟩⟩; refine ⟨_, rfl, ?_⟩))
       go_roundg kj3
       case measure => have := HK1.out; have := HJ3.out; omega
       case rel => exact ⟨(false), (true), ((((rd_T53 l0 x6_1).f0) != 1)), (wrap64 (x6_1 + 1)), eqNow, eqNow, eqNow, eqNow, H', ⟨by have := HK1.out; have := HJ3.out; omega⟩, ⟨belPut⟩⟩
      replace H := itB H
      rcases H with ⟨rfl, H⟩ | ⟨rfl, H⟩
      ·have H' := Aside0.mk H
       clear H
       have hcz131_0 := bkc (v := .int .i64 ((rd_T53 l0 x6_1).f0)) BK129.out 0 rfl
       have hcz131_1 := bkc (v := .string ((rd_T53 l0 x6_1).f1)) BK129.out 1 rfl
       have hfz131_0 := blk_frozen BK129.out 0
       have hfz131_1 := blk_frozen BK129.out 1
       go_wp2_with (((with_reducible refine gate_callee (f := 58) rfl ?_); refine goL (some 49) Tryz.func58 #[.string ((rd_T53 l0 x6_1).f1)] ?_; (with_reducible refine (selvageref01_Whole.calls ((rd_T53 l0 x6_1).f1) true _ A108.out).mono ?_); rintro e w' ⟨rfl, ⟨nd, rfl⟩⟩; refine ⟨_, rfl, ?_⟩))
       go_roundg kj3
       case measure => have := HK1.out; have := HJ3.out; omega
       case rel => exact ⟨(false), (false), (true), (wrap64 (x6_1 + 1)), eqNow, eqNow, eqNow, eqNow, H', ⟨by have := HK1.out; have := HJ3.out; omega⟩, ⟨belPut⟩⟩
      have H' := Aside0.mk H
      clear H
      have hcz132_0 := bkc (v := .int .i64 ((rd_T53 l0 x6_1).f0)) BK129.out 0 rfl
      have hcz132_1 := bkc (v := .string ((rd_T53 l0 x6_1).f1)) BK129.out 1 rfl
      have hfz132_0 := blk_frozen BK129.out 0
      have hfz132_1 := blk_frozen BK129.out 1
      go_wp2_with (((with_reducible refine gate_callee (f := 58) rfl ?_); refine goL (some 49) Tryz.func58 #[.string ((rd_T53 l0 x6_1).f1)] ?_; (with_reducible refine (selvageref01_Whole.calls ((rd_T53 l0 x6_1).f1) true _ A108.out).mono ?_); rintro e w' ⟨rfl, ⟨nd, rfl⟩⟩; refine ⟨_, rfl, ?_⟩))
      go_roundg kj3
      case measure => have := HK1.out; have := HJ3.out; omega
      case rel => exact ⟨(false), (false), ((((rd_T53 l0 x6_1).f0) != 1)), (wrap64 (x6_1 + 1)), eqNow, eqNow, eqNow, eqNow, H', ⟨by have := HK1.out; have := HJ3.out; omega⟩, ⟨belPut⟩⟩
     replace H := bdS H
     obtain ⟨t142, A133, H⟩ := H
     replace H := itB H
     rcases H with ⟨rfl, H⟩ | ⟨rfl, H⟩
     ·replace H := itB H
      rcases H with ⟨rfl, H⟩ | ⟨rfl, H⟩
      ·have H' := Aside0.mk H
       clear H
       have hcz136_0 := bkc (v := .int .i64 ((rd_T53 l0 x6_1).f0)) BK129.out 0 rfl
       have hcz136_1 := bkc (v := .string ((rd_T53 l0 x6_1).f1)) BK129.out 1 rfl
       have hfz136_0 := blk_frozen BK129.out 0
       have hfz136_1 := blk_frozen BK129.out 1
       go_wp2_with (first | ((with_reducible refine gate_callee (f := 58) rfl ?_); refine goL (some 49) Tryz.func58 #[.string ((rd_T53 l0 x6_1).f1)] ?_; (with_reducible refine (selvageref01_Whole.calls ((rd_T53 l0 x6_1).f1) false _ A108.out).mono ?_); rintro e w' ⟨rfl, ⟨nd, rfl⟩⟩; refine ⟨_, rfl, ?_⟩) | (go_at_call 68; (with_reducible refine (selvageref10_old.calls ((rd_T53 l0 x6_1).f0) ((rd_T53 l0 x6_1).f1) t142 _ A133.out).mono ?_); rintro e w137 ⟨rfl, hb⟩; replace BK129 := bkD BK129 hb; replace HB := hbD HB hb; clear hb))
       go_roundg kj3
       case measure => have := HK1.out; have := HJ3.out; omega
       case rel => exact ⟨(t142), (true), (true), (wrap64 (x6_1 + 1)), eqNow, eqNow, eqNow, eqNow, H', ⟨by have := HK1.out; have := HJ3.out; omega⟩, ⟨belPut⟩⟩
      have H' := Aside0.mk H
      clear H
      have hcz138_0 := bkc (v := .int .i64 ((rd_T53 l0 x6_1).f0)) BK129.out 0 rfl
      have hcz138_1 := bkc (v := .string ((rd_T53 l0 x6_1).f1)) BK129.out 1 rfl
      have hfz138_0 := blk_frozen BK129.out 0
      have hfz138_1 := blk_frozen BK129.out 1
      go_wp2_with (first | ((with_reducible refine gate_callee (f := 58) rfl ?_); refine goL (some 49) Tryz.func58 #[.string ((rd_T53 l0 x6_1).f1)] ?_; (with_reducible refine (selvageref01_Whole.calls ((rd_T53 l0 x6_1).f1) false _ A108.out).mono ?_); rintro e w' ⟨rfl, ⟨nd, rfl⟩⟩; refine ⟨_, rfl, ?_⟩) | (go_at_call 68; (with_reducible refine (selvageref10_old.calls ((rd_T53 l0 x6_1).f0) ((rd_T53 l0 x6_1).f1) t142 _ A133.out).mono ?_); rintro e w139 ⟨rfl, hb⟩; replace BK129 := bkD BK129 hb; replace HB := hbD HB hb; clear hb; obtain ⟨hcz140_0, hcz140_1, hfz140_0, hfz140_1⟩ := bcf2 (W := w139) BK129))
      go_roundg kj3
      case measure => have := HK1.out; have := HJ3.out; omega
      case rel => exact ⟨(t142), (true), ((((rd_T53 l0 x6_1).f0) != 1)), (wrap64 (x6_1 + 1)), eqNow, eqNow, eqNow, eqNow, H', ⟨by have := HK1.out; have := HJ3.out; omega⟩, ⟨belPut⟩⟩
     replace H := bdS H
     obtain ⟨t143, A141, H⟩ := H
     replace H := itB H
     rcases H with ⟨rfl, H⟩ | ⟨rfl, H⟩
     ·have H' := Aside0.mk H
      clear H
      have hcz143_0 := bkc (v := .int .i64 ((rd_T53 l0 x6_1).f0)) BK129.out 0 rfl
      have hcz143_1 := bkc (v := .string ((rd_T53 l0 x6_1).f1)) BK129.out 1 rfl
      have hfz143_0 := blk_frozen BK129.out 0
      have hfz143_1 := blk_frozen BK129.out 1
      go_wp2_with (first | ((with_reducible refine gate_callee (f := 58) rfl ?_); refine goL (some 49) Tryz.func58 #[.string ((rd_T53 l0 x6_1).f1)] ?_; (with_reducible refine (selvageref01_Whole.calls ((rd_T53 l0 x6_1).f1) false _ A108.out).mono ?_); rintro e w' ⟨rfl, ⟨nd, rfl⟩⟩; refine ⟨_, rfl, ?_⟩) | (go_at_call 68; (with_reducible refine (selvageref10_old.calls ((rd_T53 l0 x6_1).f0) ((rd_T53 l0 x6_1).f1) t142 _ A133.out).mono ?_); rintro e w144 ⟨rfl, hb⟩; replace BK129 := bkD BK129 hb; replace HB := hbD HB hb; clear hb; obtain ⟨hcz145_0, hcz145_1, hfz145_0, hfz145_1⟩ := bcf2 (W := w144) BK129) | (go_at_call 69; (with_reducible refine (selvageref10_fresh.calls ((rd_T53 l0 x6_1).f0) ((rd_T53 l0 x6_1).f1) t143 _ A141.out).mono ?_); rintro e w146 ⟨rfl, hb⟩; replace BK129 := bkD BK129 hb; replace HB := hbD HB hb; clear hb))
      go_roundg kj3
      case measure => have := HK1.out; have := HJ3.out; omega
      case rel => exact ⟨(t142), (t143), (true), (wrap64 (x6_1 + 1)), eqNow, eqNow, eqNow, eqNow, H', ⟨by have := HK1.out; have := HJ3.out; omega⟩, ⟨belPut⟩⟩
     have H' := Aside0.mk H
     clear H
     have hcz147_0 := bkc (v := .int .i64 ((rd_T53 l0 x6_1).f0)) BK129.out 0 rfl
     have hcz147_1 := bkc (v := .string ((rd_T53 l0 x6_1).f1)) BK129.out 1 rfl
     have hfz147_0 := blk_frozen BK129.out 0
     have hfz147_1 := blk_frozen BK129.out 1
     go_wp2_with (first | ((with_reducible refine gate_callee (f := 58) rfl ?_); refine goL (some 49) Tryz.func58 #[.string ((rd_T53 l0 x6_1).f1)] ?_; (with_reducible refine (selvageref01_Whole.calls ((rd_T53 l0 x6_1).f1) false _ A108.out).mono ?_); rintro e w' ⟨rfl, ⟨nd, rfl⟩⟩; refine ⟨_, rfl, ?_⟩) | (go_at_call 68; (with_reducible refine (selvageref10_old.calls ((rd_T53 l0 x6_1).f0) ((rd_T53 l0 x6_1).f1) t142 _ A133.out).mono ?_); rintro e w148 ⟨rfl, hb⟩; replace BK129 := bkD BK129 hb; replace HB := hbD HB hb; clear hb; obtain ⟨hcz149_0, hcz149_1, hfz149_0, hfz149_1⟩ := bcf2 (W := w148) BK129) | (go_at_call 69; (with_reducible refine (selvageref10_fresh.calls ((rd_T53 l0 x6_1).f0) ((rd_T53 l0 x6_1).f1) t143 _ A141.out).mono ?_); rintro e w150 ⟨rfl, hb⟩; replace BK129 := bkD BK129 hb; replace HB := hbD HB hb; clear hb; obtain ⟨hcz151_0, hcz151_1, hfz151_0, hfz151_1⟩ := bcf2 (W := w150) BK129))
     go_roundg kj3
     case measure => have := HK1.out; have := HJ3.out; omega
     case rel => exact ⟨(t142), (t143), ((((rd_T53 l0 x6_1).f0) != 1)), (wrap64 (x6_1 + 1)), eqNow, eqNow, eqNow, eqNow, H', ⟨by have := HK1.out; have := HJ3.out; omega⟩, ⟨belPut⟩⟩
end Go.Proofs.YtecjoofjiockkaaGreatDoor.Pp
