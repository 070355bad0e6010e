import Derived.Test.YtecjoofjiockkaaGreatDoorESt
import Derived.Test.YtecjoofjiockkaaGreatDoorPp0
import Derived.Test.YtecjoofjiockkaaGreatDoorPp4
import Derived.Test.YtecjoofjiockkaaGreatDoorPp6
import Derived.Test.YtecjoofjiockkaaGreatDoorPp8
set_option linter.unusedVariables false
set_option linter.unusedSimpArgs false
namespace Go.Proofs.YtecjoofjiockkaaGreatDoor.Pp
open Go.RowKit Go.Proofs.YtecjoofjiockkaaGreatDoor.Ext Go.Proofs.YtecjoofjiockkaaGreatDoorW.PrintWords Go.Proofs.YtecjoofjiockkaaGreatDoorW.PrintLast Go.Proofs.YtecjoofjiockkaaGreatDoorW.PrintMore
attribute [local go_sem] max2_int min2_int max_two min_two max_three min_three max_four min_four
def selvageref10_partial.l0 : Nat → Bool → Bool → Int → Int → Int → Int → Int → ByteArray → List (S53) → Option (Bool × Bool)
 | 0, _, _, _, _, _, _, _, _, _ => none
 | k + 1, x4, x5, x6, x204000, x204001, x204002, x204003, x204004, x204005 => if x6 < (x204005.length : Int) then (if 0 ≤ x6 then ((selvageref01_Whole.f ((rd_T53 x204005 x6).f1)).bind fun t205 => (if x4 = true then (if x5 = true then (selvageref10_partial.l0 k true true (wrap64 (x6 + 1)) x204000 x204001 x204002 x204003 x204004 x204005) else (if t205 = true then (selvageref10_partial.l0 k true false (wrap64 (x6 + 1)) x204000 x204001 x204002 x204003 x204004 x204005) else ((selvageref10_fresh.f ((rd_T53 x204005 x6).f0) ((rd_T53 x204005 x6).f1)).bind fun t207 => (selvageref10_partial.l0 k true t207 (wrap64 (x6 + 1)) x204000 x204001 x204002 x204003 x204004 x204005)))) else (if t205 = true then (if x5 = true then (selvageref10_partial.l0 k false true (wrap64 (x6 + 1)) x204000 x204001 x204002 x204003 x204004 x204005) else (selvageref10_partial.l0 k false false (wrap64 (x6 + 1)) x204000 x204001 x204002 x204003 x204004 x204005)) else ((selvageref10_old.f ((rd_T53 x204005 x6).f0) ((rd_T53 x204005 x6).f1)).bind fun t209 => (if x5 = true then (selvageref10_partial.l0 k t209 true (wrap64 (x6 + 1)) x204000 x204001 x204002 x204003 x204004 x204005) else ((selvageref10_fresh.f ((rd_T53 x204005 x6).f0) ((rd_T53 x204005 x6).f1)).bind fun t211 => (selvageref10_partial.l0 k t209 t211 (wrap64 (x6 + 1)) x204000 x204001 x204002 x204003 x204004 x204005))))))) else (none)) else (some (x4, x5))
def selvageref10_partial.f (k : Nat) (a0_0 : Int) (a0_1 : Int) (a0_2 : Int) (a0_3 : Int) (a0_4 : ByteArray) (l0_5 : List (S53)) : Option (Bool × Bool) := selvageref10_partial.l0 k false false 0 a0_0 a0_1 a0_2 a0_3 a0_4 l0_5
theorem selvageref10_partial.mono_l : ∀ k, (∀ y0 y1 y2 y3 y4 y5 y6 y7 y8, LeO (selvageref10_partial.l0 k y0 y1 y2 y3 y4 y5 y6 y7 y8) (selvageref10_partial.l0 (k + 1) y0 y1 y2 y3 y4 y5 y6 y7 y8))
 | 0 => fun _ _ _ _ _ _ _ _ _ r h => by simp [selvageref10_partial.l0] at h
 | k + 1 => by
  have ih0 := selvageref10_partial.mono_l k
  ·intro y0 y1 y2 y3 y4 y5 y6 y7 y8
   unfold selvageref10_partial.l0
   repeat' first
   | (with_reducible exact ih0 _ _ _ _ _ _ _ _ _)
   | (with_reducible exact LeO.refl _)
   | (with_reducible exact LeO.none _)
   | (with_reducible refine LeO.ite ?_ ?_)
   | (with_reducible refine LeO.bind ?_ (fun _ => ?_))
   | exact ih0 _ _ _ _ _ _ _ _ _
   | exact LeO.none _
   | refine LeO.ite ?_ ?_
   | refine LeO.bind ?_ (fun _ => ?_)
theorem selvageref10_partial.mono : ∀ a0 a1 a2 a3 a4 a5 k, LeO (selvageref10_partial.f k a0 a1 a2 a3 a4 a5) (selvageref10_partial.f (k + 1) a0 a1 a2 a3 a4 a5) := by
 intro a0 a1 a2 a3 a4 a5 k
 have ih0 := selvageref10_partial.mono_l k
 unfold selvageref10_partial.f
 repeat' first
   | (with_reducible exact ih0 _ _ _ _ _ _ _ _ _)
   | (with_reducible exact LeO.refl _)
   | (with_reducible exact LeO.none _)
   | (with_reducible refine LeO.ite ?_ ?_)
   | (with_reducible refine LeO.bind ?_ (fun _ => ?_))
   | exact ih0 _ _ _ _ _ _ _ _ _
   | exact LeO.none _
   | refine LeO.ite ?_ ?_
   | refine LeO.bind ?_ (fun _ => ?_)
set_option maxHeartbeats 8000000 in
set_option maxRecDepth 100000 in
theorem selvageref10_partial.calls (k : Nat) (a0_0 : Int) (a0_1 : Int) (a0_2 : Int) (a0_3 : Int) (a0_4 : ByteArray) (A0_5 : Option Addr) (c0_5 : Nat) (l0_5 : List (S53)) (r1 : Bool) (r2 : Bool) (w : World) (hr0_5 : Kd.C k53 w A0_5 l0_5.length l0_5) (hc0_5 : l0_5.length ≤ c0_5) (h : selvageref10_partial.f k a0_0 a0_1 a0_2 a0_3 a0_4 l0_5 = some (r1, r2)) :
  Calls Tryz.prog 48 #[.agg #[.int .i64 a0_0, .int .i64 a0_1, .int .i64 a0_2, .int .i64 a0_3, .string a0_4, .slice A0_5 l0_5.length c0_5]] w fun e w' => e = .returned (.tuple #[.bool r1, .bool r2]) ∧ Below w.heap.size w w' := by
 have hu29 := Tryz.underlying29
 have hu53 := Tryz.underlying53
 have HR0_5 := Aside0.mk hr0_5
 have HC0_5 := Aside0.mk hc0_5
 clear hr0_5 hc0_5
 have HB := Aside0.mk (Below.refl w.heap.size w)
 have H := h
 clear h
 unfold selvageref10_partial.f at H
 have H' := Aside0.mk H
 clear H
 go_enter Tryz.func48, Tryz.ntmps48
 go_wp2_with (first | ((with_reducible refine gate_dst (N := 1) rfl ?_); refine boxEv (N := 1) #[.int .i64 a0_0, .int .i64 a0_1, .int .i64 a0_2, .int .i64 a0_3, .string a0_4, .slice A0_5 l0_5.length c0_5] 29 ?_; intro gb203 hg w2 hbox hb; have BK203 := Aside0.mk hbox; have GW203 := gwN HB hg; have GE203 := GW203; replace HB := hbD HB hb; clear hb hbox hg))
 go_loopg [4, 5, 6] k (fun kq v4 v5 v6 w' => ∃ (x4_1 : Bool) (x5_1 : Bool) (x6_1 : Int), v4 = .bool x4_1 ∧ v5 = .bool x5_1 ∧ v6 = .int .i64 x6_1 ∧ Aside0 (selvageref10_partial.l0 kq x4_1 x5_1 x6_1 a0_0 a0_1 a0_2 a0_3 a0_4 l0_5 = some (r1, r2)) ∧ Aside0 (kq ≤ k) ∧ Aside0 (w'.heap[gb203]? = some (.cells #[.int .i64 a0_0, .int .i64 a0_1, .int .i64 a0_2, .int .i64 a0_3, .string a0_4, (.slice A0_5 l0_5.length c0_5)] 29 (0, 0))) ∧ Aside0 (Below w.heap.size w w'))
 case atStart => exact ⟨(false), (false), (0), eqNow, eqNow, eqNow, H', ⟨Nat.le_refl _⟩, ⟨bkUp BK203.out⟩, ⟨belPut⟩⟩
 case round =>
  clear H'
  obtain ⟨x4_1, x5_1, x6_1, rfl, rfl, rfl, HA, HK1, BK203, HB⟩ := hrel
  cases gk with
  | zero => exact absurd HA.out (by simp [selvageref10_partial.l0])
  | succ k1 =>
   have H := HA.out
   clear HA
   simp only [selvageref10_partial.l0] at H
   replace H := itLn H
   rcases H with ⟨-, c3b0, H⟩ | ⟨-, c3b0, H⟩
   ·simp only [Option.some.injEq, Prod.mk.injEq] at H
    obtain ⟨rfl, rfl⟩ := H
    have hcz27_0 := bkc (v := .int .i64 a0_0) BK203.out 0 rfl
    have hcz27_1 := bkc (v := .int .i64 a0_1) BK203.out 1 rfl
    have hcz27_2 := bkc (v := .int .i64 a0_2) BK203.out 2 rfl
    have hcz27_3 := bkc (v := .int .i64 a0_3) BK203.out 3 rfl
    have hcz27_4 := bkc (v := .string a0_4) BK203.out 4 rfl
    have hcz27_5 := bkc (v := .slice A0_5 l0_5.length c0_5) BK203.out 5 rfl
    have hfz27_0 := blk_frozen BK203.out 0
    have hfz27_1 := blk_frozen BK203.out 1
    have hfz27_2 := blk_frozen BK203.out 2
    have hfz27_3 := blk_frozen BK203.out 3
    have hfz27_4 := blk_frozen BK203.out 4
    have hfz27_5 := blk_frozen BK203.out 5
    go_wp2
    go_ret2
    exact ⟨eqEnd, belPut⟩
   replace H := itLn H
   rcases H with ⟨_, _, H⟩ | ⟨-, c4b0, H⟩
   ·cases H
   replace H := bdS H
   obtain ⟨t205, A5, H⟩ := H
   replace H := itB H
   rcases H with ⟨rfl, H⟩ | ⟨rfl, H⟩
   ·replace H := itB H
    rcases H with ⟨rfl, H⟩ | ⟨rfl, H⟩
    ·have H' := Aside0.mk H
     clear H
     have hcz8_0 := bkc (v := .int .i64 a0_0) BK203.out 0 rfl
     have hcz8_1 := bkc (v := .int .i64 a0_1) BK203.out 1 rfl
     have hcz8_2 := bkc (v := .int .i64 a0_2) BK203.out 2 rfl
     have hcz8_3 := bkc (v := .int .i64 a0_3) BK203.out 3 rfl
     have hcz8_4 := bkc (v := .string a0_4) BK203.out 4 rfl
     have hcz8_5 := bkc (v := .slice A0_5 l0_5.length c0_5) BK203.out 5 rfl
     have hfz8_0 := blk_frozen BK203.out 0
     have hfz8_1 := blk_frozen BK203.out 1
     have hfz8_2 := blk_frozen BK203.out 2
     have hfz8_3 := blk_frozen BK203.out 3
     have hfz8_4 := blk_frozen BK203.out 4
     have hfz8_5 := blk_frozen BK203.out 5
     obtain ⟨ad204, rfl, hx204_0, hx204_1, p204, q204⟩ := atU_T53 HR0_5 HB x6_1
     go_wp2_with (first | ((with_reducible refine gate_callee (f := 58) rfl ?_); refine goL (some 21) Tryz.func58 #[.string ((rd_T53 l0_5 x6_1).f1)] ?_; (with_reducible refine (selvageref01_Whole.calls ((rd_T53 l0_5 x6_1).f1) t205 _ A5.out).mono ?_); rintro e w' ⟨rfl, ⟨nd, rfl⟩⟩; refine ⟨_, rfl, ?_⟩))
     go_roundg k1
     case measure => have := HK1.out; omega
     case rel => exact ⟨(true), (true), (wrap64 (x6_1 + 1)), eqNow, eqNow, eqNow, H', ⟨by have := HK1.out; omega⟩, ⟨bkUp BK203.out⟩, ⟨belPut⟩⟩
    replace H := itB H
    rcases H with ⟨rfl, H⟩ | ⟨rfl, H⟩
    ·have H' := Aside0.mk H
     clear H
     have hcz10_0 := bkc (v := .int .i64 a0_0) BK203.out 0 rfl
     have hcz10_1 := bkc (v := .int .i64 a0_1) BK203.out 1 rfl
     have hcz10_2 := bkc (v := .int .i64 a0_2) BK203.out 2 rfl
     have hcz10_3 := bkc (v := .int .i64 a0_3) BK203.out 3 rfl
     have hcz10_4 := bkc (v := .string a0_4) BK203.out 4 rfl
     have hcz10_5 := bkc (v := .slice A0_5 l0_5.length c0_5) BK203.out 5 rfl
     have hfz10_0 := blk_frozen BK203.out 0
     have hfz10_1 := blk_frozen BK203.out 1
     have hfz10_2 := blk_frozen BK203.out 2
     have hfz10_3 := blk_frozen BK203.out 3
     have hfz10_4 := blk_frozen BK203.out 4
     have hfz10_5 := blk_frozen BK203.out 5
     obtain ⟨ad204, rfl, hx204_0, hx204_1, p204, q204⟩ := atU_T53 HR0_5 HB x6_1
     go_wp2_with (first | ((with_reducible refine gate_callee (f := 58) rfl ?_); refine goL (some 21) Tryz.func58 #[.string ((rd_T53 l0_5 x6_1).f1)] ?_; (with_reducible refine (selvageref01_Whole.calls ((rd_T53 l0_5 x6_1).f1) true _ A5.out).mono ?_); rintro e w' ⟨rfl, ⟨nd, rfl⟩⟩; refine ⟨_, rfl, ?_⟩))
     go_roundg k1
     case measure => have := HK1.out; omega
     case rel => exact ⟨(true), (false), (wrap64 (x6_1 + 1)), eqNow, eqNow, eqNow, H', ⟨by have := HK1.out; omega⟩, ⟨bkUp BK203.out⟩, ⟨belPut⟩⟩
    replace H := bdS H
    obtain ⟨t207, A11, H⟩ := H
    have H' := Aside0.mk H
    clear H
    have hcz12_0 := bkc (v := .int .i64 a0_0) BK203.out 0 rfl
    have hcz12_1 := bkc (v := .int .i64 a0_1) BK203.out 1 rfl
    have hcz12_2 := bkc (v := .int .i64 a0_2) BK203.out 2 rfl
    have hcz12_3 := bkc (v := .int .i64 a0_3) BK203.out 3 rfl
    have hcz12_4 := bkc (v := .string a0_4) BK203.out 4 rfl
    have hcz12_5 := bkc (v := .slice A0_5 l0_5.length c0_5) BK203.out 5 rfl
    have hfz12_0 := blk_frozen BK203.out 0
    have hfz12_1 := blk_frozen BK203.out 1
    have hfz12_2 := blk_frozen BK203.out 2
    have hfz12_3 := blk_frozen BK203.out 3
    have hfz12_4 := blk_frozen BK203.out 4
    have hfz12_5 := blk_frozen BK203.out 5
    obtain ⟨ad204, rfl, hx204_0, hx204_1, p204, q204⟩ := atU_T53 HR0_5 HB x6_1
    go_wp2_with (first | ((with_reducible refine gate_callee (f := 58) rfl ?_); refine goL (some 21) Tryz.func58 #[.string ((rd_T53 l0_5 x6_1).f1)] ?_; (with_reducible refine (selvageref01_Whole.calls ((rd_T53 l0_5 x6_1).f1) false _ A5.out).mono ?_); rintro e w' ⟨rfl, ⟨nd, rfl⟩⟩; refine ⟨_, rfl, ?_⟩; have p206 : 0 ≤ (x6_1 : Int) := ofDec; have q206 : x6_1 < (l0_5.length : Int) := ofDec; obtain ⟨ad206, e206, hx206_0, hx206_1⟩ := at_T53 HR0_5.out x6_1 p206 q206; obtain rfl : ad204 = ad206 := (by injection e206); replace hx206_0 := (HB.out.cell (World.block_lt_of_cell? w _ hx206_0)).trans hx206_0; replace hx206_1 := (HB.out.cell (World.block_lt_of_cell? w _ hx206_1)).trans hx206_1; replace p206 := eq_true p206; replace q206 := eq_true q206) | (go_at_call 69; (with_reducible refine (selvageref10_fresh.calls ((rd_T53 l0_5 x6_1).f0) ((rd_T53 l0_5 x6_1).f1) t207 _ A11.out).mono ?_); rintro e w13 ⟨rfl, hb⟩; replace BK203 := bkD BK203 hb; replace HB := hbD HB hb; clear hb))
    go_roundg k1
    case measure => have := HK1.out; omega
    case rel => exact ⟨(true), (t207), (wrap64 (x6_1 + 1)), eqNow, eqNow, eqNow, H', ⟨by have := HK1.out; omega⟩, ⟨bkUp BK203.out⟩, ⟨belPut⟩⟩
   replace H := itB H
   rcases H with ⟨rfl, H⟩ | ⟨rfl, H⟩
   ·replace H := itB H
    rcases H with ⟨rfl, H⟩ | ⟨rfl, H⟩
    ·have H' := Aside0.mk H
     clear H
     have hcz16_0 := bkc (v := .int .i64 a0_0) BK203.out 0 rfl
     have hcz16_1 := bkc (v := .int .i64 a0_1) BK203.out 1 rfl
     have hcz16_2 := bkc (v := .int .i64 a0_2) BK203.out 2 rfl
     have hcz16_3 := bkc (v := .int .i64 a0_3) BK203.out 3 rfl
     have hcz16_4 := bkc (v := .string a0_4) BK203.out 4 rfl
     have hcz16_5 := bkc (v := .slice A0_5 l0_5.length c0_5) BK203.out 5 rfl
     have hfz16_0 := blk_frozen BK203.out 0
     have hfz16_1 := blk_frozen BK203.out 1
     have hfz16_2 := blk_frozen BK203.out 2
     have hfz16_3 := blk_frozen BK203.out 3
     have hfz16_4 := blk_frozen BK203.out 4
     have hfz16_5 := blk_frozen BK203.out 5
     obtain ⟨ad204, rfl, hx204_0, hx204_1, p204, q204⟩ := atU_T53 HR0_5 HB x6_1
     go_wp2_with (first | ((with_reducible refine gate_callee (f := 58) rfl ?_); refine goL (some 21) Tryz.func58 #[.string ((rd_T53 l0_5 x6_1).f1)] ?_; (with_reducible refine (selvageref01_Whole.calls ((rd_T53 l0_5 x6_1).f1) true _ A5.out).mono ?_); rintro e w' ⟨rfl, ⟨nd, rfl⟩⟩; refine ⟨_, rfl, ?_⟩))
     go_roundg k1
     case measure => have := HK1.out; omega
     case rel => exact ⟨(false), (true), (wrap64 (x6_1 + 1)), eqNow, eqNow, eqNow, H', ⟨by have := HK1.out; omega⟩, ⟨bkUp BK203.out⟩, ⟨belPut⟩⟩
    have H' := Aside0.mk H
    clear H
    have hcz17_0 := bkc (v := .int .i64 a0_0) BK203.out 0 rfl
    have hcz17_1 := bkc (v := .int .i64 a0_1) BK203.out 1 rfl
    have hcz17_2 := bkc (v := .int .i64 a0_2) BK203.out 2 rfl
    have hcz17_3 := bkc (v := .int .i64 a0_3) BK203.out 3 rfl
    have hcz17_4 := bkc (v := .string a0_4) BK203.out 4 rfl
    have hcz17_5 := bkc (v := .slice A0_5 l0_5.length c0_5) BK203.out 5 rfl
    have hfz17_0 := blk_frozen BK203.out 0
    have hfz17_1 := blk_frozen BK203.out 1
    have hfz17_2 := blk_frozen BK203.out 2
    have hfz17_3 := blk_frozen BK203.out 3
    have hfz17_4 := blk_frozen BK203.out 4
    have hfz17_5 := blk_frozen BK203.out 5
    obtain ⟨ad204, rfl, hx204_0, hx204_1, p204, q204⟩ := atU_T53 HR0_5 HB x6_1
    go_wp2_with (first | ((with_reducible refine gate_callee (f := 58) rfl ?_); refine goL (some 21) Tryz.func58 #[.string ((rd_T53 l0_5 x6_1).f1)] ?_; (with_reducible refine (selvageref01_Whole.calls ((rd_T53 l0_5 x6_1).f1) true _ A5.out).mono ?_); rintro e w' ⟨rfl, ⟨nd, rfl⟩⟩; refine ⟨_, rfl, ?_⟩))
    go_roundg k1
    case measure => have := HK1.out; omega
    case rel => exact ⟨(false), (false), (wrap64 (x6_1 + 1)), eqNow, eqNow, eqNow, H', ⟨by have := HK1.out; omega⟩, ⟨bkUp BK203.out⟩, ⟨belPut⟩⟩
   replace H := bdS H
   obtain ⟨t209, A18, H⟩ := H
   replace H := itB H
   rcases H with ⟨rfl, H⟩ | ⟨rfl, H⟩
   ·have H' := Aside0.mk H
    clear H
    have hcz20_0 := bkc (v := .int .i64 a0_0) BK203.out 0 rfl
    have hcz20_1 := bkc (v := .int .i64 a0_1) BK203.out 1 rfl
    have hcz20_2 := bkc (v := .int .i64 a0_2) BK203.out 2 rfl
    have hcz20_3 := bkc (v := .int .i64 a0_3) BK203.out 3 rfl
    have hcz20_4 := bkc (v := .string a0_4) BK203.out 4 rfl
    have hcz20_5 := bkc (v := .slice A0_5 l0_5.length c0_5) BK203.out 5 rfl
    have hfz20_0 := blk_frozen BK203.out 0
    have hfz20_1 := blk_frozen BK203.out 1
    have hfz20_2 := blk_frozen BK203.out 2
    have hfz20_3 := blk_frozen BK203.out 3
    have hfz20_4 := blk_frozen BK203.out 4
    have hfz20_5 := blk_frozen BK203.out 5
    obtain ⟨ad204, rfl, hx204_0, hx204_1, p204, q204⟩ := atU_T53 HR0_5 HB x6_1
    go_wp2_with (first | ((with_reducible refine gate_callee (f := 58) rfl ?_); refine goL (some 21) Tryz.func58 #[.string ((rd_T53 l0_5 x6_1).f1)] ?_; (with_reducible refine (selvageref01_Whole.calls ((rd_T53 l0_5 x6_1).f1) false _ A5.out).mono ?_); rintro e w' ⟨rfl, ⟨nd, rfl⟩⟩; refine ⟨_, rfl, ?_⟩; have p208 : 0 ≤ (x6_1 : Int) := ofDec; have q208 : x6_1 < (l0_5.length : Int) := ofDec; obtain ⟨ad208, e208, hx208_0, hx208_1⟩ := at_T53 HR0_5.out x6_1 p208 q208; obtain rfl : ad204 = ad208 := (by injection e208); replace hx208_0 := (HB.out.cell (World.block_lt_of_cell? w _ hx208_0)).trans hx208_0; replace hx208_1 := (HB.out.cell (World.block_lt_of_cell? w _ hx208_1)).trans hx208_1; replace p208 := eq_true p208; replace q208 := eq_true q208) | (go_at_call 68; (with_reducible refine (selvageref10_old.calls ((rd_T53 l0_5 x6_1).f0) ((rd_T53 l0_5 x6_1).f1) t209 _ A18.out).mono ?_); rintro e w21 ⟨rfl, hb⟩; replace BK203 := bkD BK203 hb; replace HB := hbD HB hb; clear hb))
    go_roundg k1
    case measure => have := HK1.out; omega
    case rel => exact ⟨(t209), (true), (wrap64 (x6_1 + 1)), eqNow, eqNow, eqNow, H', ⟨by have := HK1.out; omega⟩, ⟨bkUp BK203.out⟩, ⟨belPut⟩⟩
   replace H := bdS H
   obtain ⟨t211, A22, H⟩ := H
   have H' := Aside0.mk H
   clear H
   have hcz23_0 := bkc (v := .int .i64 a0_0) BK203.out 0 rfl
   have hcz23_1 := bkc (v := .int .i64 a0_1) BK203.out 1 rfl
   have hcz23_2 := bkc (v := .int .i64 a0_2) BK203.out 2 rfl
   have hcz23_3 := bkc (v := .int .i64 a0_3) BK203.out 3 rfl
   have hcz23_4 := bkc (v := .string a0_4) BK203.out 4 rfl
   have hcz23_5 := bkc (v := .slice A0_5 l0_5.length c0_5) BK203.out 5 rfl
   have hfz23_0 := blk_frozen BK203.out 0
   have hfz23_1 := blk_frozen BK203.out 1
   have hfz23_2 := blk_frozen BK203.out 2
   have hfz23_3 := blk_frozen BK203.out 3
   have hfz23_4 := blk_frozen BK203.out 4
   have hfz23_5 := blk_frozen BK203.out 5
   obtain ⟨ad204, rfl, hx204_0, hx204_1, p204, q204⟩ := atU_T53 HR0_5 HB x6_1
   go_wp2_with (first | ((with_reducible refine gate_callee (f := 58) rfl ?_); refine goL (some 21) Tryz.func58 #[.string ((rd_T53 l0_5 x6_1).f1)] ?_; (with_reducible refine (selvageref01_Whole.calls ((rd_T53 l0_5 x6_1).f1) false _ A5.out).mono ?_); rintro e w' ⟨rfl, ⟨nd, rfl⟩⟩; refine ⟨_, rfl, ?_⟩; have p208 : 0 ≤ (x6_1 : Int) := ofDec; have q208 : x6_1 < (l0_5.length : Int) := ofDec; obtain ⟨ad208, e208, hx208_0, hx208_1⟩ := at_T53 HR0_5.out x6_1 p208 q208; obtain rfl : ad204 = ad208 := (by injection e208); replace hx208_0 := (HB.out.cell (World.block_lt_of_cell? w _ hx208_0)).trans hx208_0; replace hx208_1 := (HB.out.cell (World.block_lt_of_cell? w _ hx208_1)).trans hx208_1; replace p208 := eq_true p208; replace q208 := eq_true q208) | (go_at_call 68; (with_reducible refine (selvageref10_old.calls ((rd_T53 l0_5 x6_1).f0) ((rd_T53 l0_5 x6_1).f1) t209 _ A18.out).mono ?_); rintro e w24 ⟨rfl, hb⟩; replace BK203 := bkD BK203 hb; replace HB := hbD HB hb; clear hb; obtain ⟨hcz25_0, hcz25_1, hcz25_2, hcz25_3, hcz25_4, hcz25_5, hfz25_0, hfz25_1, hfz25_2, hfz25_3, hfz25_4, hfz25_5⟩ := bcf6 (W := w24) BK203; have p210 : 0 ≤ (x6_1 : Int) := ofDec; have q210 : x6_1 < (l0_5.length : Int) := ofDec; obtain ⟨ad210, e210, hx210_0, hx210_1⟩ := at_T53 HR0_5.out x6_1 p210 q210; obtain rfl : ad204 = ad210 := (by injection e210); replace hx210_0 := (HB.out.cell (World.block_lt_of_cell? w _ hx210_0)).trans hx210_0; replace hx210_1 := (HB.out.cell (World.block_lt_of_cell? w _ hx210_1)).trans hx210_1; replace p210 := eq_true p210; replace q210 := eq_true q210) | (go_at_call 69; (with_reducible refine (selvageref10_fresh.calls ((rd_T53 l0_5 x6_1).f0) ((rd_T53 l0_5 x6_1).f1) t211 _ A22.out).mono ?_); rintro e w26 ⟨rfl, hb⟩; replace BK203 := bkD BK203 hb; replace HB := hbD HB hb; clear hb))
   go_roundg k1
   case measure => have := HK1.out; omega
   case rel => exact ⟨(t209), (t211), (wrap64 (x6_1 + 1)), eqNow, eqNow, eqNow, H', ⟨by have := HK1.out; omega⟩, ⟨bkUp BK203.out⟩, ⟨belPut⟩⟩
mutual
def selvageref10_Order.l0 : Nat → List (S29) → Int → Option (Int)
 | 0, _, _ => none
 | k + 1, x0, x3 => if x3 < (x0.length : Int) then (if 0 ≤ x3 then ((selvageref10_Valid.f k ((rd_T29 x0 x3).f0) ((rd_T29 x0 x3).f1) ((rd_T29 x0 x3).f2) ((rd_T29 x0 x3).f3) ((rd_T29 x0 x3).f4) ((rd_T29 x0 x3).f5)).bind fun t213 => (if t213 = 0 then (selvageref10_Order.l0 k x0 (wrap64 (x3 + 1))) else (some 100))) else (none)) else (selvageref10_Order.l1 k x0 0 0 false false 0)
def selvageref10_Order.l1 : Nat → List (S29) → Int → Int → Bool → Bool → Int → Option (Int)
 | 0, _, _, _, _, _, _ => none
 | k + 1, x0, x4, x5, x6, x7, x8 => if x8 < (x0.length : Int) then (if 0 ≤ x8 then ((selvageref10_Place.f ((rd_T29 x0 x8).f0) ((rd_T29 x0 x8).f1)).bind fun t216 => ((selvageref10_Place.f ((rd_T29 x0 x8).f2) ((rd_T29 x0 x8).f3)).bind fun t217 => (if t216 < x4 then (some 112) else (if t217 < x5 then (some 112) else (if (wrap64 (t216 - t217)) = (wrap64 (x4 - x5)) then (if x6 = true then (if ((rd_T29 x0 x8).f1) > 0 then (some 112) else (if x7 = true then (if ((rd_T29 x0 x8).f3) > 0 then (some 112) else ((selvageref10_partial.f k ((rd_T29 x0 x8).f0) ((rd_T29 x0 x8).f1) ((rd_T29 x0 x8).f2) ((rd_T29 x0 x8).f3) ((rd_T29 x0 x8).f4) ((rd_T29 x0 x8).f5)).bind fun bt218 => (selvageref10_Order.l1 k x0 (wrap64 (t216 + ((rd_T29 x0 x8).f1))) (wrap64 (t217 + ((rd_T29 x0 x8).f3))) true true (wrap64 (x8 + 1))))) else ((selvageref10_partial.f k ((rd_T29 x0 x8).f0) ((rd_T29 x0 x8).f1) ((rd_T29 x0 x8).f2) ((rd_T29 x0 x8).f3) ((rd_T29 x0 x8).f4) ((rd_T29 x0 x8).f5)).bind fun bt220 => (selvageref10_Order.l1 k x0 (wrap64 (t216 + ((rd_T29 x0 x8).f1))) (wrap64 (t217 + ((rd_T29 x0 x8).f3))) true bt220.2 (wrap64 (x8 + 1)))))) else (if x7 = true then (if ((rd_T29 x0 x8).f3) > 0 then (some 112) else ((selvageref10_partial.f k ((rd_T29 x0 x8).f0) ((rd_T29 x0 x8).f1) ((rd_T29 x0 x8).f2) ((rd_T29 x0 x8).f3) ((rd_T29 x0 x8).f4) ((rd_T29 x0 x8).f5)).bind fun bt222 => (selvageref10_Order.l1 k x0 (wrap64 (t216 + ((rd_T29 x0 x8).f1))) (wrap64 (t217 + ((rd_T29 x0 x8).f3))) bt222.1 true (wrap64 (x8 + 1))))) else ((selvageref10_partial.f k ((rd_T29 x0 x8).f0) ((rd_T29 x0 x8).f1) ((rd_T29 x0 x8).f2) ((rd_T29 x0 x8).f3) ((rd_T29 x0 x8).f4) ((rd_T29 x0 x8).f5)).bind fun bt224 => (selvageref10_Order.l1 k x0 (wrap64 (t216 + ((rd_T29 x0 x8).f1))) (wrap64 (t217 + ((rd_T29 x0 x8).f3))) bt224.1 bt224.2 (wrap64 (x8 + 1)))))) else (some 112)))))) else (none)) else (some 0)
end
def selvageref10_Order.f (k : Nat) (l0 : List (S29)) : Option (Int) := selvageref10_Order.l0 k l0 0
theorem selvageref10_Order.mono_l : ∀ k, (∀ y0 y1, LeO (selvageref10_Order.l0 k y0 y1) (selvageref10_Order.l0 (k + 1) y0 y1)) ∧ (∀ y0 y1 y2 y3 y4 y5, LeO (selvageref10_Order.l1 k y0 y1 y2 y3 y4 y5) (selvageref10_Order.l1 (k + 1) y0 y1 y2 y3 y4 y5))
 | 0 => ⟨fun _ _ r h => by simp [selvageref10_Order.l0] at h, fun _ _ _ _ _ _ r h => by simp [selvageref10_Order.l1] at h⟩
 | k + 1 => by
  obtain ⟨ih0, ih1⟩ := selvageref10_Order.mono_l k
  refine ⟨?_, ?_⟩
  ·intro y0 y1
   unfold selvageref10_Order.l0
   repeat' first
   | (with_reducible exact ih0 _ _)
   | (with_reducible exact ih1 _ _ _ _ _ _)
   | (with_reducible exact selvageref10_Valid.mono _ _ _ _ _ _ _)
   | (with_reducible exact selvageref10_partial.mono _ _ _ _ _ _ _)
   | (with_reducible exact LeO.refl _)
   | (with_reducible exact LeO.none _)
   | (with_reducible refine LeO.ite ?_ ?_)
   | (with_reducible refine LeO.bind ?_ (fun _ => ?_))
   | exact ih0 _ _
   | exact ih1 _ _ _ _ _ _
   | exact selvageref10_Valid.mono _ _ _ _ _ _ _
   | exact selvageref10_partial.mono _ _ _ _ _ _ _
   | exact LeO.none _
   | refine LeO.ite ?_ ?_
   | refine LeO.bind ?_ (fun _ => ?_)
  ·intro y0 y1 y2 y3 y4 y5
   unfold selvageref10_Order.l1
   repeat' first
   | (with_reducible exact ih0 _ _)
   | (with_reducible exact ih1 _ _ _ _ _ _)
   | (with_reducible exact selvageref10_Valid.mono _ _ _ _ _ _ _)
   | (with_reducible exact selvageref10_partial.mono _ _ _ _ _ _ _)
   | (with_reducible exact LeO.refl _)
   | (with_reducible exact LeO.none _)
   | (with_reducible refine LeO.ite ?_ ?_)
   | (with_reducible refine LeO.bind ?_ (fun _ => ?_))
   | exact ih0 _ _
   | exact ih1 _ _ _ _ _ _
   | exact selvageref10_Valid.mono _ _ _ _ _ _ _
   | exact selvageref10_partial.mono _ _ _ _ _ _ _
   | exact LeO.none _
   | refine LeO.ite ?_ ?_
   | refine LeO.bind ?_ (fun _ => ?_)
theorem selvageref10_Order.mono : ∀ a0 k, LeO (selvageref10_Order.f k a0) (selvageref10_Order.f (k + 1) a0) := by
 intro a0 k
 obtain ⟨ih0, ih1⟩ := selvageref10_Order.mono_l k
 unfold selvageref10_Order.f
 repeat' first
   | (with_reducible exact ih0 _ _)
   | (with_reducible exact ih1 _ _ _ _ _ _)
   | (with_reducible exact selvageref10_Valid.mono _ _ _ _ _ _ _)
   | (with_reducible exact selvageref10_partial.mono _ _ _ _ _ _ _)
   | (with_reducible exact LeO.refl _)
   | (with_reducible exact LeO.none _)
   | (with_reducible refine LeO.ite ?_ ?_)
   | (with_reducible refine LeO.bind ?_ (fun _ => ?_))
   | exact ih0 _ _
   | exact ih1 _ _ _ _ _ _
   | exact selvageref10_Valid.mono _ _ _ _ _ _ _
   | exact selvageref10_partial.mono _ _ _ _ _ _ _
   | exact LeO.none _
   | refine LeO.ite ?_ ?_
   | refine LeO.bind ?_ (fun _ => ?_)
set_option maxHeartbeats 80000000 in
set_option maxRecDepth 100000 in
theorem selvageref10_Order.calls (k : Nat) (A0 : Option Addr) (c0 : Nat) (l0 : List (S29)) (r : Int) (w : World) (hr0 : Kd.C k29 w A0 l0.length l0) (hc0 : l0.length ≤ c0) (h : selvageref10_Order.f k l0 = some r) :
  Calls Tryz.prog 16 #[.slice A0 l0.length c0] w fun e w' => e = .returned (.int .i64 r) ∧ Below w.heap.size w w' := by
 have hu29 := Tryz.underlying29
 have HR0 := Aside0.mk hr0
 have HC0 := Aside0.mk hc0
 clear hr0 hc0
 have HB := Aside0.mk (Below.refl w.heap.size w)
 have H := h
 clear h
 unfold selvageref10_Order.f at H
 have H' := Aside0.mk H
 clear H
 go_enter Tryz.func16, Tryz.ntmps16
 try simp only [List.append_eq, List.cons_append, List.nil_append]
 go_wp2
 go_loopg [3] k (fun kq v3 w' => ∃ (x3_1 : Int), v3 = .int .i64 x3_1 ∧ Aside0 (selvageref10_Order.l0 kq l0 x3_1 = some r) ∧ Aside0 (kq ≤ k) ∧ Aside0 (Below w.heap.size w w'))
 case atStart => exact ⟨(0), eqNow, H', ⟨Nat.le_refl _⟩, ⟨belNow⟩⟩
 case round =>
  clear H'
  obtain ⟨x3_1, rfl, HA, HK1, HB⟩ := hrel
  cases gk with
  | zero => exact absurd HA.out (by simp [selvageref10_Order.l0])
  | succ k1 =>
   have H := HA.out
   clear HA
   simp only [selvageref10_Order.l0] at H
   replace H := itL H
   rcases H with ⟨-, c2b0, H⟩ | ⟨-, c2b0, H⟩
   ·replace H := itLn H
    rcases H with ⟨_, _, H⟩ | ⟨-, c3b0, H⟩
    ·cases H
    replace H := bdS H
    obtain ⟨t213, A4, H⟩ := H
    replace H := itEn H
    rcases H with ⟨c5, c5b0, c5b1, H⟩ | ⟨-, c5b0, c5b1, H⟩
    ·obtain rfl := Option.some.inj H
     obtain ⟨ad212, A212_5, c212_5, rfl, hx212_0, hx212_1, hx212_2, hx212_3, hx212_4, hx212_5, HC212_5, HR212_5, p212, q212⟩ := atU_T29 HR0 HB x3_1
     go_wp2_with (first | ((with_reducible refine gate_callee (f := 13) rfl ?_); refine goL (some 24) Tryz.func13 #[.agg #[.int .i64 ((rd_T29 l0 x3_1).f0), .int .i64 ((rd_T29 l0 x3_1).f1), .int .i64 ((rd_T29 l0 x3_1).f2), .int .i64 ((rd_T29 l0 x3_1).f3), .string ((rd_T29 l0 x3_1).f4), .slice A212_5 ((rd_T29 l0 x3_1).f5).length c212_5]] ?_; (with_reducible refine (selvageref10_Valid.calls k1 ((rd_T29 l0 x3_1).f0) ((rd_T29 l0 x3_1).f1) ((rd_T29 l0 x3_1).f2) ((rd_T29 l0 x3_1).f3) ((rd_T29 l0 x3_1).f4) _ _ ((rd_T29 l0 x3_1).f5) t213 _ ?side1 ?side2 A4.out).mono ?_); (case side1 => exact kcU HR212_5 HB); (case side2 => exact HC212_5.out); rintro e w7 ⟨rfl, hb⟩; refine ⟨_, rfl, ?_⟩; replace HB := hbD HB hb; clear hb))
     go_ret
     exact ⟨eqEnd, belNow⟩
    have H' := Aside0.mk H
    clear H
    obtain ⟨ad212, A212_5, c212_5, rfl, hx212_0, hx212_1, hx212_2, hx212_3, hx212_4, hx212_5, HC212_5, HR212_5, p212, q212⟩ := atU_T29 HR0 HB x3_1
    go_wp2_with (first | ((with_reducible refine gate_callee (f := 13) rfl ?_); refine goL (some 24) Tryz.func13 #[.agg #[.int .i64 ((rd_T29 l0 x3_1).f0), .int .i64 ((rd_T29 l0 x3_1).f1), .int .i64 ((rd_T29 l0 x3_1).f2), .int .i64 ((rd_T29 l0 x3_1).f3), .string ((rd_T29 l0 x3_1).f4), .slice A212_5 ((rd_T29 l0 x3_1).f5).length c212_5]] ?_; (with_reducible refine (selvageref10_Valid.calls k1 ((rd_T29 l0 x3_1).f0) ((rd_T29 l0 x3_1).f1) ((rd_T29 l0 x3_1).f2) ((rd_T29 l0 x3_1).f3) ((rd_T29 l0 x3_1).f4) _ _ ((rd_T29 l0 x3_1).f5) t213 _ ?side1 ?side2 A4.out).mono ?_); (case side1 => exact kcU HR212_5 HB); (case side2 => exact HC212_5.out); rintro e w6 ⟨rfl, hb⟩; refine ⟨_, rfl, ?_⟩; replace HB := hbD HB hb; clear hb))
    go_roundg k1
    case measure => have := HK1.out; omega
    case rel => exact ⟨(wrap64 (x3_1 + 1)), eqNow, H', ⟨by have := HK1.out; omega⟩, ⟨belNow⟩⟩
   have H' := Aside0.mk H
   clear H
   go_wp2
   go_loopg [4, 5, 6, 7, 8] k1 (fun kq v4 v5 v6 v7 v8 w' => ∃ (x4_2 : Int) (x5_2 : Int) (x6_2 : Bool) (x7_2 : Bool) (x8_2 : Int), v4 = .int .i64 x4_2 ∧ v5 = .int .i64 x5_2 ∧ v6 = .bool x6_2 ∧ v7 = .bool x7_2 ∧ v8 = .int .i64 x8_2 ∧ Aside0 (selvageref10_Order.l1 kq l0 x4_2 x5_2 x6_2 x7_2 x8_2 = some r) ∧ Aside0 (kq ≤ k1) ∧ Aside0 (Below w.heap.size w w'))
   case atStart => exact ⟨(0), (0), (false), (false), (0), eqNow, eqNow, eqNow, eqNow, eqNow, H', ⟨Nat.le_refl _⟩, ⟨belNow⟩⟩
   case round =>
    clear H'
    try clear c2
    try clear c2b0
    obtain ⟨x4_2, x5_2, x6_2, x7_2, x8_2, rfl, rfl, rfl, rfl, rfl, HA, HK2, HB⟩ := hrel
    cases gk with
    | zero => exact absurd HA.out (by simp [selvageref10_Order.l1])
    | succ k2 =>
     have H := HA.out
     clear HA
     simp only [selvageref10_Order.l1] at H
     replace H := itLn H
     rcases H with ⟨-, c8b0, H⟩ | ⟨-, c8b0, H⟩
     ·obtain rfl := Option.some.inj H
      go_wp2
      go_ret
      exact ⟨eqEnd, belNow⟩
     replace H := itLn H
     rcases H with ⟨_, _, H⟩ | ⟨-, c9b0, H⟩
     ·cases H
     replace H := bdS H
     obtain ⟨t216, A10, H⟩ := H
     replace H := bdS H
     obtain ⟨t217, A11, H⟩ := H
     replace H := itL H
     rcases H with ⟨-, c12b0, H⟩ | ⟨-, c12b0, H⟩
     ·obtain rfl := Option.some.inj H
      obtain ⟨ad214, A214_5, c214_5, rfl, hx214_0, hx214_1, hx214_2, hx214_3, hx214_4, hx214_5, HC214_5, HR214_5, p214, q214⟩ := atU_T29 HR0 HB x8_2
      go_wp2_with (first | ((with_reducible refine gate_dst (N := 9) rfl ?_); refine boxEv (N := 9) #[.int .i64 0, .int .i64 0, .int .i64 0, .int .i64 0, .string (⟨#[]⟩ : ByteArray), .slice none 0 0] 29 ?_; intro gb215 hg w13 hbox hb; have BK215 := Aside0.mk hbox; have GW215 := gwN HB hg; have GE215 := GW215; replace HB := hbD HB hb; clear hb hbox hg; obtain ⟨hcz14_0, hcz14_1, hcz14_2, hcz14_3, hcz14_4, hcz14_5, hfz14_0, hfz14_1, hfz14_2, hfz14_3, hfz14_4, hfz14_5⟩ := bcf6 (W := w13) BK215) | ((with_reducible refine gate_callee (f := 47) rfl ?_); refine goL (some 40) Tryz.func47 #[.int .i64 ((rd_T29 l0 x8_2).f0), .int .i64 ((rd_T29 l0 x8_2).f1)] ?_; (with_reducible refine (selvageref10_Place.calls ((rd_T29 l0 x8_2).f0) ((rd_T29 l0 x8_2).f1) t216 _ A10.out).mono ?_); rintro e w' ⟨rfl, ⟨nd, rfl⟩⟩; refine ⟨_, rfl, ?_⟩) | ((with_reducible refine gate_callee (f := 47) rfl ?_); refine goL (some 45) Tryz.func47 #[.int .i64 ((rd_T29 l0 x8_2).f2), .int .i64 ((rd_T29 l0 x8_2).f3)] ?_; (with_reducible refine (selvageref10_Place.calls ((rd_T29 l0 x8_2).f2) ((rd_T29 l0 x8_2).f3) t217 _ A11.out).mono ?_); rintro e w' ⟨rfl, ⟨nd, rfl⟩⟩; refine ⟨_, rfl, ?_⟩))
      go_ret
      exact ⟨eqEnd, belPut⟩
     replace H := itL H
     rcases H with ⟨-, c15b0, H⟩ | ⟨-, c15b0, H⟩
     ·obtain rfl := Option.some.inj H
      obtain ⟨ad214, A214_5, c214_5, rfl, hx214_0, hx214_1, hx214_2, hx214_3, hx214_4, hx214_5, HC214_5, HR214_5, p214, q214⟩ := atU_T29 HR0 HB x8_2
      go_wp2_with (first | ((with_reducible refine gate_dst (N := 9) rfl ?_); refine boxEv (N := 9) #[.int .i64 0, .int .i64 0, .int .i64 0, .int .i64 0, .string (⟨#[]⟩ : ByteArray), .slice none 0 0] 29 ?_; intro gb215 hg w16 hbox hb; have BK215 := Aside0.mk hbox; have GW215 := gwN HB hg; have GE215 := GW215; replace HB := hbD HB hb; clear hb hbox hg; obtain ⟨hcz17_0, hcz17_1, hcz17_2, hcz17_3, hcz17_4, hcz17_5, hfz17_0, hfz17_1, hfz17_2, hfz17_3, hfz17_4, hfz17_5⟩ := bcf6 (W := w16) BK215) | ((with_reducible refine gate_callee (f := 47) rfl ?_); refine goL (some 40) Tryz.func47 #[.int .i64 ((rd_T29 l0 x8_2).f0), .int .i64 ((rd_T29 l0 x8_2).f1)] ?_; (with_reducible refine (selvageref10_Place.calls ((rd_T29 l0 x8_2).f0) ((rd_T29 l0 x8_2).f1) t216 _ A10.out).mono ?_); rintro e w' ⟨rfl, ⟨nd, rfl⟩⟩; refine ⟨_, rfl, ?_⟩) | ((with_reducible refine gate_callee (f := 47) rfl ?_); refine goL (some 45) Tryz.func47 #[.int .i64 ((rd_T29 l0 x8_2).f2), .int .i64 ((rd_T29 l0 x8_2).f3)] ?_; (with_reducible refine (selvageref10_Place.calls ((rd_T29 l0 x8_2).f2) ((rd_T29 l0 x8_2).f3) t217 _ A11.out).mono ?_); rintro e w' ⟨rfl, ⟨nd, rfl⟩⟩; refine ⟨_, rfl, ?_⟩))
      go_ret
      exact ⟨eqEnd, belPut⟩
     replace H := itEn H
     rcases H with ⟨c18, c18b0, c18b1, H⟩ | ⟨-, c18b0, c18b1, H⟩
     ·obtain rfl := Option.some.inj H
      obtain ⟨ad214, A214_5, c214_5, rfl, hx214_0, hx214_1, hx214_2, hx214_3, hx214_4, hx214_5, HC214_5, HR214_5, p214, q214⟩ := atU_T29 HR0 HB x8_2
      go_wp2_with (first | ((with_reducible refine gate_dst (N := 9) rfl ?_); refine boxEv (N := 9) #[.int .i64 0, .int .i64 0, .int .i64 0, .int .i64 0, .string (⟨#[]⟩ : ByteArray), .slice none 0 0] 29 ?_; intro gb215 hg w47 hbox hb; have BK215 := Aside0.mk hbox; have GW215 := gwN HB hg; have GE215 := GW215; replace HB := hbD HB hb; clear hb hbox hg; obtain ⟨hcz48_0, hcz48_1, hcz48_2, hcz48_3, hcz48_4, hcz48_5, hfz48_0, hfz48_1, hfz48_2, hfz48_3, hfz48_4, hfz48_5⟩ := bcf6 (W := w47) BK215) | ((with_reducible refine gate_callee (f := 47) rfl ?_); refine goL (some 40) Tryz.func47 #[.int .i64 ((rd_T29 l0 x8_2).f0), .int .i64 ((rd_T29 l0 x8_2).f1)] ?_; (with_reducible refine (selvageref10_Place.calls ((rd_T29 l0 x8_2).f0) ((rd_T29 l0 x8_2).f1) t216 _ A10.out).mono ?_); rintro e w' ⟨rfl, ⟨nd, rfl⟩⟩; refine ⟨_, rfl, ?_⟩) | ((with_reducible refine gate_callee (f := 47) rfl ?_); refine goL (some 45) Tryz.func47 #[.int .i64 ((rd_T29 l0 x8_2).f2), .int .i64 ((rd_T29 l0 x8_2).f3)] ?_; (with_reducible refine (selvageref10_Place.calls ((rd_T29 l0 x8_2).f2) ((rd_T29 l0 x8_2).f3) t217 _ A11.out).mono ?_); rintro e w' ⟨rfl, ⟨nd, rfl⟩⟩; refine ⟨_, rfl, ?_⟩))
      go_ret
      exact ⟨eqEnd, belPut⟩
     replace H := itBn H
     rcases H with ⟨rfl, H⟩ | ⟨rfl, H⟩
     ·replace H := itBn H
      rcases H with ⟨rfl, H⟩ | ⟨rfl, H⟩
      ·replace H := bdS H
       obtain ⟨⟨t224, t225⟩, A43, H⟩ := H
       replace H : (selvageref10_Order.l1 k2 l0 (wrap64 (t216 + ((rd_T29 l0 x8_2).f1))) (wrap64 (t217 + ((rd_T29 l0 x8_2).f3))) t224 t225 (wrap64 (x8_2 + 1))) = some r := H
       have H' := Aside0.mk H
       clear H
       obtain ⟨ad214, A214_5, c214_5, rfl, hx214_0, hx214_1, hx214_2, hx214_3, hx214_4, hx214_5, HC214_5, HR214_5, p214, q214⟩ := atU_T29 HR0 HB x8_2
       go_wp2_with (first | ((with_reducible refine gate_dst (N := 9) rfl ?_); refine boxEv (N := 9) #[.int .i64 0, .int .i64 0, .int .i64 0, .int .i64 0, .string (⟨#[]⟩ : ByteArray), .slice none 0 0] 29 ?_; intro gb215 hg w44 hbox hb; have BK215 := Aside0.mk hbox; have GW215 := gwN HB hg; have GE215 := GW215; replace HB := hbD HB hb; clear hb hbox hg; obtain ⟨hcz45_0, hcz45_1, hcz45_2, hcz45_3, hcz45_4, hcz45_5, hfz45_0, hfz45_1, hfz45_2, hfz45_3, hfz45_4, hfz45_5⟩ := bcf6 (W := w44) BK215) | ((with_reducible refine gate_callee (f := 47) rfl ?_); refine goL (some 40) Tryz.func47 #[.int .i64 ((rd_T29 l0 x8_2).f0), .int .i64 ((rd_T29 l0 x8_2).f1)] ?_; (with_reducible refine (selvageref10_Place.calls ((rd_T29 l0 x8_2).f0) ((rd_T29 l0 x8_2).f1) t216 _ A10.out).mono ?_); rintro e w' ⟨rfl, ⟨nd, rfl⟩⟩; refine ⟨_, rfl, ?_⟩) | ((with_reducible refine gate_callee (f := 47) rfl ?_); refine goL (some 45) Tryz.func47 #[.int .i64 ((rd_T29 l0 x8_2).f2), .int .i64 ((rd_T29 l0 x8_2).f3)] ?_; (with_reducible refine (selvageref10_Place.calls ((rd_T29 l0 x8_2).f2) ((rd_T29 l0 x8_2).f3) t217 _ A11.out).mono ?_); rintro e w' ⟨rfl, ⟨nd, rfl⟩⟩; refine ⟨_, rfl, ?_⟩) | ((with_reducible refine gate_callee (f := 48) rfl ?_); refine goL (some 89) Tryz.func48 #[.agg #[.int .i64 ((rd_T29 l0 x8_2).f0), .int .i64 ((rd_T29 l0 x8_2).f1), .int .i64 ((rd_T29 l0 x8_2).f2), .int .i64 ((rd_T29 l0 x8_2).f3), .string ((rd_T29 l0 x8_2).f4), .slice A214_5 ((rd_T29 l0 x8_2).f5).length c214_5]] ?_; (with_reducible refine (selvageref10_partial.calls k2 ((rd_T29 l0 x8_2).f0) ((rd_T29 l0 x8_2).f1) ((rd_T29 l0 x8_2).f2) ((rd_T29 l0 x8_2).f3) ((rd_T29 l0 x8_2).f4) _ _ ((rd_T29 l0 x8_2).f5) t224 t225 _ ?side1 ?side2 A43.out).mono ?_); (case side1 => exact Kd.C_below HR214_5.out (belPut)); (case side2 => exact HC214_5.out); rintro e w46 ⟨rfl, hb⟩; refine ⟨_, rfl, ?_⟩; replace BK215 := bkD BK215 hb; replace HB := hbD HB hb; clear hb))
       go_roundg k2
       case measure => have := HK1.out; have := HK2.out; omega
       case rel => exact ⟨(wrap64 (t216 + ((rd_T29 l0 x8_2).f1))), (wrap64 (t217 + ((rd_T29 l0 x8_2).f3))), (t224), (t225), (wrap64 (x8_2 + 1)), eqNow, eqNow, eqNow, eqNow, eqNow, H', ⟨by have := HK1.out; have := HK2.out; omega⟩, ⟨belPut⟩⟩
      replace H := itG H
      rcases H with ⟨-, c36b0, H⟩ | ⟨-, c36b0, H⟩
      ·obtain rfl := Option.some.inj H
       obtain ⟨ad214, A214_5, c214_5, rfl, hx214_0, hx214_1, hx214_2, hx214_3, hx214_4, hx214_5, HC214_5, HR214_5, p214, q214⟩ := atU_T29 HR0 HB x8_2
       go_wp2_with (first | ((with_reducible refine gate_dst (N := 9) rfl ?_); refine boxEv (N := 9) #[.int .i64 0, .int .i64 0, .int .i64 0, .int .i64 0, .string (⟨#[]⟩ : ByteArray), .slice none 0 0] 29 ?_; intro gb215 hg w37 hbox hb; have BK215 := Aside0.mk hbox; have GW215 := gwN HB hg; have GE215 := GW215; replace HB := hbD HB hb; clear hb hbox hg; obtain ⟨hcz38_0, hcz38_1, hcz38_2, hcz38_3, hcz38_4, hcz38_5, hfz38_0, hfz38_1, hfz38_2, hfz38_3, hfz38_4, hfz38_5⟩ := bcf6 (W := w37) BK215) | ((with_reducible refine gate_callee (f := 47) rfl ?_); refine goL (some 40) Tryz.func47 #[.int .i64 ((rd_T29 l0 x8_2).f0), .int .i64 ((rd_T29 l0 x8_2).f1)] ?_; (with_reducible refine (selvageref10_Place.calls ((rd_T29 l0 x8_2).f0) ((rd_T29 l0 x8_2).f1) t216 _ A10.out).mono ?_); rintro e w' ⟨rfl, ⟨nd, rfl⟩⟩; refine ⟨_, rfl, ?_⟩) | ((with_reducible refine gate_callee (f := 47) rfl ?_); refine goL (some 45) Tryz.func47 #[.int .i64 ((rd_T29 l0 x8_2).f2), .int .i64 ((rd_T29 l0 x8_2).f3)] ?_; (with_reducible refine (selvageref10_Place.calls ((rd_T29 l0 x8_2).f2) ((rd_T29 l0 x8_2).f3) t217 _ A11.out).mono ?_); rintro e w' ⟨rfl, ⟨nd, rfl⟩⟩; refine ⟨_, rfl, ?_⟩))
       go_ret
       exact ⟨eqEnd, belPut⟩
      replace H := bdS H
      obtain ⟨⟨t222, t223⟩, A39, H⟩ := H
      replace H : (selvageref10_Order.l1 k2 l0 (wrap64 (t216 + ((rd_T29 l0 x8_2).f1))) (wrap64 (t217 + ((rd_T29 l0 x8_2).f3))) t222 true (wrap64 (x8_2 + 1))) = some r := H
      have H' := Aside0.mk H
      clear H
      obtain ⟨ad214, A214_5, c214_5, rfl, hx214_0, hx214_1, hx214_2, hx214_3, hx214_4, hx214_5, HC214_5, HR214_5, p214, q214⟩ := atU_T29 HR0 HB x8_2
      go_wp2_with (first | ((with_reducible refine gate_dst (N := 9) rfl ?_); refine boxEv (N := 9) #[.int .i64 0, .int .i64 0, .int .i64 0, .int .i64 0, .string (⟨#[]⟩ : ByteArray), .slice none 0 0] 29 ?_; intro gb215 hg w40 hbox hb; have BK215 := Aside0.mk hbox; have GW215 := gwN HB hg; have GE215 := GW215; replace HB := hbD HB hb; clear hb hbox hg; obtain ⟨hcz41_0, hcz41_1, hcz41_2, hcz41_3, hcz41_4, hcz41_5, hfz41_0, hfz41_1, hfz41_2, hfz41_3, hfz41_4, hfz41_5⟩ := bcf6 (W := w40) BK215) | ((with_reducible refine gate_callee (f := 47) rfl ?_); refine goL (some 40) Tryz.func47 #[.int .i64 ((rd_T29 l0 x8_2).f0), .int .i64 ((rd_T29 l0 x8_2).f1)] ?_; (with_reducible refine (selvageref10_Place.calls ((rd_T29 l0 x8_2).f0) ((rd_T29 l0 x8_2).f1) t216 _ A10.out).mono ?_); rintro e w' ⟨rfl, ⟨nd, rfl⟩⟩; refine ⟨_, rfl, ?_⟩) | ((with_reducible refine gate_callee (f := 47) rfl ?_); refine goL (some 45) Tryz.func47 #[.int .i64 ((rd_T29 l0 x8_2).f2), .int .i64 ((rd_T29 l0 x8_2).f3)] ?_; (with_reducible refine (selvageref10_Place.calls ((rd_T29 l0 x8_2).f2) ((rd_T29 l0 x8_2).f3) t217 _ A11.out).mono ?_); rintro e w' ⟨rfl, ⟨nd, rfl⟩⟩; refine ⟨_, rfl, ?_⟩) | ((with_reducible refine gate_callee (f := 48) rfl ?_); refine goL (some 89) Tryz.func48 #[.agg #[.int .i64 ((rd_T29 l0 x8_2).f0), .int .i64 ((rd_T29 l0 x8_2).f1), .int .i64 ((rd_T29 l0 x8_2).f2), .int .i64 ((rd_T29 l0 x8_2).f3), .string ((rd_T29 l0 x8_2).f4), .slice A214_5 ((rd_T29 l0 x8_2).f5).length c214_5]] ?_; (with_reducible refine (selvageref10_partial.calls k2 ((rd_T29 l0 x8_2).f0) ((rd_T29 l0 x8_2).f1) ((rd_T29 l0 x8_2).f2) ((rd_T29 l0 x8_2).f3) ((rd_T29 l0 x8_2).f4) _ _ ((rd_T29 l0 x8_2).f5) t222 t223 _ ?side1 ?side2 A39.out).mono ?_); (case side1 => exact Kd.C_below HR214_5.out (belPut)); (case side2 => exact HC214_5.out); rintro e w42 ⟨rfl, hb⟩; refine ⟨_, rfl, ?_⟩; replace BK215 := bkD BK215 hb; replace HB := hbD HB hb; clear hb))
      go_roundg k2
      case measure => have := HK1.out; have := HK2.out; omega
      case rel => exact ⟨(wrap64 (t216 + ((rd_T29 l0 x8_2).f1))), (wrap64 (t217 + ((rd_T29 l0 x8_2).f3))), (t222), (true), (wrap64 (x8_2 + 1)), eqNow, eqNow, eqNow, eqNow, eqNow, H', ⟨by have := HK1.out; have := HK2.out; omega⟩, ⟨belPut⟩⟩
     replace H := itG H
     rcases H with ⟨-, c20b0, H⟩ | ⟨-, c20b0, H⟩
     ·obtain rfl := Option.some.inj H
      obtain ⟨ad214, A214_5, c214_5, rfl, hx214_0, hx214_1, hx214_2, hx214_3, hx214_4, hx214_5, HC214_5, HR214_5, p214, q214⟩ := atU_T29 HR0 HB x8_2
      go_wp2_with (first | ((with_reducible refine gate_dst (N := 9) rfl ?_); refine boxEv (N := 9) #[.int .i64 0, .int .i64 0, .int .i64 0, .int .i64 0, .string (⟨#[]⟩ : ByteArray), .slice none 0 0] 29 ?_; intro gb215 hg w21 hbox hb; have BK215 := Aside0.mk hbox; have GW215 := gwN HB hg; have GE215 := GW215; replace HB := hbD HB hb; clear hb hbox hg; obtain ⟨hcz22_0, hcz22_1, hcz22_2, hcz22_3, hcz22_4, hcz22_5, hfz22_0, hfz22_1, hfz22_2, hfz22_3, hfz22_4, hfz22_5⟩ := bcf6 (W := w21) BK215) | ((with_reducible refine gate_callee (f := 47) rfl ?_); refine goL (some 40) Tryz.func47 #[.int .i64 ((rd_T29 l0 x8_2).f0), .int .i64 ((rd_T29 l0 x8_2).f1)] ?_; (with_reducible refine (selvageref10_Place.calls ((rd_T29 l0 x8_2).f0) ((rd_T29 l0 x8_2).f1) t216 _ A10.out).mono ?_); rintro e w' ⟨rfl, ⟨nd, rfl⟩⟩; refine ⟨_, rfl, ?_⟩) | ((with_reducible refine gate_callee (f := 47) rfl ?_); refine goL (some 45) Tryz.func47 #[.int .i64 ((rd_T29 l0 x8_2).f2), .int .i64 ((rd_T29 l0 x8_2).f3)] ?_; (with_reducible refine (selvageref10_Place.calls ((rd_T29 l0 x8_2).f2) ((rd_T29 l0 x8_2).f3) t217 _ A11.out).mono ?_); rintro e w' ⟨rfl, ⟨nd, rfl⟩⟩; refine ⟨_, rfl, ?_⟩))
      go_ret
      exact ⟨eqEnd, belPut⟩
     replace H := itBn H
     rcases H with ⟨rfl, H⟩ | ⟨rfl, H⟩
     ·replace H := bdS H
      obtain ⟨⟨t220, t221⟩, A31, H⟩ := H
      replace H : (selvageref10_Order.l1 k2 l0 (wrap64 (t216 + ((rd_T29 l0 x8_2).f1))) (wrap64 (t217 + ((rd_T29 l0 x8_2).f3))) true t221 (wrap64 (x8_2 + 1))) = some r := H
      have H' := Aside0.mk H
      clear H
      obtain ⟨ad214, A214_5, c214_5, rfl, hx214_0, hx214_1, hx214_2, hx214_3, hx214_4, hx214_5, HC214_5, HR214_5, p214, q214⟩ := atU_T29 HR0 HB x8_2
      go_wp2_with (first | ((with_reducible refine gate_dst (N := 9) rfl ?_); refine boxEv (N := 9) #[.int .i64 0, .int .i64 0, .int .i64 0, .int .i64 0, .string (⟨#[]⟩ : ByteArray), .slice none 0 0] 29 ?_; intro gb215 hg w32 hbox hb; have BK215 := Aside0.mk hbox; have GW215 := gwN HB hg; have GE215 := GW215; replace HB := hbD HB hb; clear hb hbox hg; obtain ⟨hcz33_0, hcz33_1, hcz33_2, hcz33_3, hcz33_4, hcz33_5, hfz33_0, hfz33_1, hfz33_2, hfz33_3, hfz33_4, hfz33_5⟩ := bcf6 (W := w32) BK215) | ((with_reducible refine gate_callee (f := 47) rfl ?_); refine goL (some 40) Tryz.func47 #[.int .i64 ((rd_T29 l0 x8_2).f0), .int .i64 ((rd_T29 l0 x8_2).f1)] ?_; (with_reducible refine (selvageref10_Place.calls ((rd_T29 l0 x8_2).f0) ((rd_T29 l0 x8_2).f1) t216 _ A10.out).mono ?_); rintro e w' ⟨rfl, ⟨nd, rfl⟩⟩; refine ⟨_, rfl, ?_⟩) | ((with_reducible refine gate_callee (f := 47) rfl ?_); refine goL (some 45) Tryz.func47 #[.int .i64 ((rd_T29 l0 x8_2).f2), .int .i64 ((rd_T29 l0 x8_2).f3)] ?_; (with_reducible refine (selvageref10_Place.calls ((rd_T29 l0 x8_2).f2) ((rd_T29 l0 x8_2).f3) t217 _ A11.out).mono ?_); rintro e w' ⟨rfl, ⟨nd, rfl⟩⟩; refine ⟨_, rfl, ?_⟩) | ((with_reducible refine gate_callee (f := 48) rfl ?_); refine goL (some 89) Tryz.func48 #[.agg #[.int .i64 ((rd_T29 l0 x8_2).f0), .int .i64 ((rd_T29 l0 x8_2).f1), .int .i64 ((rd_T29 l0 x8_2).f2), .int .i64 ((rd_T29 l0 x8_2).f3), .string ((rd_T29 l0 x8_2).f4), .slice A214_5 ((rd_T29 l0 x8_2).f5).length c214_5]] ?_; (with_reducible refine (selvageref10_partial.calls k2 ((rd_T29 l0 x8_2).f0) ((rd_T29 l0 x8_2).f1) ((rd_T29 l0 x8_2).f2) ((rd_T29 l0 x8_2).f3) ((rd_T29 l0 x8_2).f4) _ _ ((rd_T29 l0 x8_2).f5) t220 t221 _ ?side1 ?side2 A31.out).mono ?_); (case side1 => exact Kd.C_below HR214_5.out (belPut)); (case side2 => exact HC214_5.out); rintro e w34 ⟨rfl, hb⟩; refine ⟨_, rfl, ?_⟩; replace BK215 := bkD BK215 hb; replace HB := hbD HB hb; clear hb))
      go_roundg k2
      case measure => have := HK1.out; have := HK2.out; omega
      case rel => exact ⟨(wrap64 (t216 + ((rd_T29 l0 x8_2).f1))), (wrap64 (t217 + ((rd_T29 l0 x8_2).f3))), (true), (t221), (wrap64 (x8_2 + 1)), eqNow, eqNow, eqNow, eqNow, eqNow, H', ⟨by have := HK1.out; have := HK2.out; omega⟩, ⟨belPut⟩⟩
     replace H := itG H
     rcases H with ⟨-, c24b0, H⟩ | ⟨-, c24b0, H⟩
     ·obtain rfl := Option.some.inj H
      obtain ⟨ad214, A214_5, c214_5, rfl, hx214_0, hx214_1, hx214_2, hx214_3, hx214_4, hx214_5, HC214_5, HR214_5, p214, q214⟩ := atU_T29 HR0 HB x8_2
      go_wp2_with (first | ((with_reducible refine gate_dst (N := 9) rfl ?_); refine boxEv (N := 9) #[.int .i64 0, .int .i64 0, .int .i64 0, .int .i64 0, .string (⟨#[]⟩ : ByteArray), .slice none 0 0] 29 ?_; intro gb215 hg w25 hbox hb; have BK215 := Aside0.mk hbox; have GW215 := gwN HB hg; have GE215 := GW215; replace HB := hbD HB hb; clear hb hbox hg; obtain ⟨hcz26_0, hcz26_1, hcz26_2, hcz26_3, hcz26_4, hcz26_5, hfz26_0, hfz26_1, hfz26_2, hfz26_3, hfz26_4, hfz26_5⟩ := bcf6 (W := w25) BK215) | ((with_reducible refine gate_callee (f := 47) rfl ?_); refine goL (some 40) Tryz.func47 #[.int .i64 ((rd_T29 l0 x8_2).f0), .int .i64 ((rd_T29 l0 x8_2).f1)] ?_; (with_reducible refine (selvageref10_Place.calls ((rd_T29 l0 x8_2).f0) ((rd_T29 l0 x8_2).f1) t216 _ A10.out).mono ?_); rintro e w' ⟨rfl, ⟨nd, rfl⟩⟩; refine ⟨_, rfl, ?_⟩) | ((with_reducible refine gate_callee (f := 47) rfl ?_); refine goL (some 45) Tryz.func47 #[.int .i64 ((rd_T29 l0 x8_2).f2), .int .i64 ((rd_T29 l0 x8_2).f3)] ?_; (with_reducible refine (selvageref10_Place.calls ((rd_T29 l0 x8_2).f2) ((rd_T29 l0 x8_2).f3) t217 _ A11.out).mono ?_); rintro e w' ⟨rfl, ⟨nd, rfl⟩⟩; refine ⟨_, rfl, ?_⟩))
      go_ret
      exact ⟨eqEnd, belPut⟩
     replace H := bdS H
     obtain ⟨⟨t218, t219⟩, A27, H⟩ := H
     replace H : (selvageref10_Order.l1 k2 l0 (wrap64 (t216 + ((rd_T29 l0 x8_2).f1))) (wrap64 (t217 + ((rd_T29 l0 x8_2).f3))) true true (wrap64 (x8_2 + 1))) = some r := H
     have H' := Aside0.mk H
     clear H
     obtain ⟨ad214, A214_5, c214_5, rfl, hx214_0, hx214_1, hx214_2, hx214_3, hx214_4, hx214_5, HC214_5, HR214_5, p214, q214⟩ := atU_T29 HR0 HB x8_2
     go_wp2_with (first | ((with_reducible refine gate_dst (N := 9) rfl ?_); refine boxEv (N := 9) #[.int .i64 0, .int .i64 0, .int .i64 0, .int .i64 0, .string (⟨#[]⟩ : ByteArray), .slice none 0 0] 29 ?_; intro gb215 hg w28 hbox hb; have BK215 := Aside0.mk hbox; have GW215 := gwN HB hg; have GE215 := GW215; replace HB := hbD HB hb; clear hb hbox hg; obtain ⟨hcz29_0, hcz29_1, hcz29_2, hcz29_3, hcz29_4, hcz29_5, hfz29_0, hfz29_1, hfz29_2, hfz29_3, hfz29_4, hfz29_5⟩ := bcf6 (W := w28) BK215) | ((with_reducible refine gate_callee (f := 47) rfl ?_); refine goL (some 40) Tryz.func47 #[.int .i64 ((rd_T29 l0 x8_2).f0), .int .i64 ((rd_T29 l0 x8_2).f1)] ?_; (with_reducible refine (selvageref10_Place.calls ((rd_T29 l0 x8_2).f0) ((rd_T29 l0 x8_2).f1) t216 _ A10.out).mono ?_); rintro e w' ⟨rfl, ⟨nd, rfl⟩⟩; refine ⟨_, rfl, ?_⟩) | ((with_reducible refine gate_callee (f := 47) rfl ?_); refine goL (some 45) Tryz.func47 #[.int .i64 ((rd_T29 l0 x8_2).f2), .int .i64 ((rd_T29 l0 x8_2).f3)] ?_; (with_reducible refine (selvageref10_Place.calls ((rd_T29 l0 x8_2).f2) ((rd_T29 l0 x8_2).f3) t217 _ A11.out).mono ?_); rintro e w' ⟨rfl, ⟨nd, rfl⟩⟩; refine ⟨_, rfl, ?_⟩) | ((with_reducible refine gate_callee (f := 48) rfl ?_); refine goL (some 89) Tryz.func48 #[.agg #[.int .i64 ((rd_T29 l0 x8_2).f0), .int .i64 ((rd_T29 l0 x8_2).f1), .int .i64 ((rd_T29 l0 x8_2).f2), .int .i64 ((rd_T29 l0 x8_2).f3), .string ((rd_T29 l0 x8_2).f4), .slice A214_5 ((rd_T29 l0 x8_2).f5).length c214_5]] ?_; (with_reducible refine (selvageref10_partial.calls k2 ((rd_T29 l0 x8_2).f0) ((rd_T29 l0 x8_2).f1) ((rd_T29 l0 x8_2).f2) ((rd_T29 l0 x8_2).f3) ((rd_T29 l0 x8_2).f4) _ _ ((rd_T29 l0 x8_2).f5) t218 t219 _ ?side1 ?side2 A27.out).mono ?_); (case side1 => exact Kd.C_below HR214_5.out (belPut)); (case side2 => exact HC214_5.out); rintro e w30 ⟨rfl, hb⟩; refine ⟨_, rfl, ?_⟩; replace BK215 := bkD BK215 hb; replace HB := hbD HB hb; clear hb))
     go_roundg k2
     case measure => have := HK1.out; have := HK2.out; omega
     case rel => exact ⟨(wrap64 (t216 + ((rd_T29 l0 x8_2).f1))), (wrap64 (t217 + ((rd_T29 l0 x8_2).f3))), (true), (true), (wrap64 (x8_2 + 1)), eqNow, eqNow, eqNow, eqNow, eqNow, H', ⟨by have := HK1.out; have := HK2.out; omega⟩, ⟨belPut⟩⟩
end Go.Proofs.YtecjoofjiockkaaGreatDoor.Pp
