/-
  Plain laws.
-/
import Derived.Test.YtecjoofjiockkaaGreatDoorESt
import Derived.Test.YtecjoofjiockkaaGreatDoorPp0
import Derived.Test.YtecjoofjiockkaaGreatDoorPp4
set_option linter.unusedVariables false
set_option linter.unusedSimpArgs false
namespace Go.Proofs.YtecjoofjiockkaaGreatDoor.Pp
open Go.RowKit Go.Proofs.YtecjoofjiockkaaGreatDoor.Ext Go.Proofs.YtecjoofjiockkaaGreatDoorW.PrintWords Go.Proofs.YtecjoofjiockkaaGreatDoorW.PrintLast Go.Proofs.YtecjoofjiockkaaGreatDoorW.PrintMore
attribute [local go_sem] max2_int min2_int max_two min_two max_three min_three max_four min_four
def selvagelaw10_sameTexts.l0 : Nat → List ByteArray → List ByteArray → Int → Option (Bool)
 | 0, _, _, _ => none
 | k + 1, x0, x1, x5 => if x5 < (x0.length : Int) then (if 0 ≤ x5 then (if x5 < (x1.length : Int) then (if (rdOf ByteArray.empty x0 x5).toList = (rdOf ByteArray.empty x1 x5).toList then (selvagelaw10_sameTexts.l0 k x0 x1 (wrap64 (x5 + 1))) else (none)) else (none)) else (none)) else (some true)
def selvagelaw10_sameTexts.f (k : Nat) (l0 : List ByteArray) (l1 : List ByteArray) : Option (Bool) := if (l0.length : Int) = (l1.length : Int) then (selvagelaw10_sameTexts.l0 k l0 l1 0) else (none)
set_option maxHeartbeats 8000000 in
set_option maxRecDepth 100000 in
theorem selvagelaw10_sameTexts.calls (k : Nat) (A0 : Option Addr) (c0 : Nat) (l0 : List ByteArray) (A1 : Option Addr) (c1 : Nat) (l1 : List ByteArray) (r : Bool) (w : World) (hr0 : Kd.C Kd.string w A0 l0.length l0) (hc0 : l0.length ≤ c0) (hr1 : Kd.C Kd.string w A1 l1.length l1) (hc1 : l1.length ≤ c1) (h : selvagelaw10_sameTexts.f k l0 l1 = some r) :
  Calls Tryz.prog 23 #[.slice A0 l0.length c0, .slice A1 l1.length c1] w fun e w' => e = .returned (.bool r) ∧ Drawn0 w w' := by
 have HR0 := Aside0.mk hr0
 have HC0 := Aside0.mk hc0
 clear hr0 hc0
 have HR1 := Aside0.mk hr1
 have HC1 := Aside0.mk hc1
 clear hr1 hc1
 have H := h
 clear h
 unfold selvagelaw10_sameTexts.f at H
 replace H := itEn H
 rcases H with ⟨_, _, _, H⟩ | ⟨c3, c3b0, c3b1, H⟩
 ·cases H
 have c3b2 : (l0.length == l1.length) = true := by first | simpa using c3 | (simp at c3 ⊢; omega)
 clear c3
 have H' := Aside0.mk H
 clear H
 go_enter Tryz.func23, Tryz.ntmps23
 go_wp2
 repeat (go_quiet (fail); try go_wp2)
 go_loopg [5] k (fun kq v5 w' => ∃ (x5_1 : Int), v5 = .int .i64 x5_1 ∧ Aside0 (selvagelaw10_sameTexts.l0 kq l0 l1 x5_1 = some r) ∧ Aside0 (kq ≤ k) ∧ Drawn0 w w')
 case atStart => exact ⟨(0), eqNow, H', ⟨Nat.le_refl _⟩, drawnNow⟩
 case round =>
  clear H'
  try clear c1
  try clear c3
  try clear c3b0
  try clear c3b1
  try clear c3b2
  obtain ⟨x5_1, rfl, HA, HK1, ⟨m1, rfl⟩⟩ := hrel
  cases gk with
  | zero => exact absurd HA.out (by simp [selvagelaw10_sameTexts.l0])
  | succ k1 =>
   have H := HA.out
   clear HA
   simp only [selvagelaw10_sameTexts.l0] at H
   replace H := itLn H
   rcases H with ⟨-, c4b0, H⟩ | ⟨-, c4b0, H⟩
   ·obtain rfl := Option.some.inj H
    go_wp2
    repeat (go_quiet (fail); try go_wp2)
    go_ret
    exact ⟨eqFin, drawnNow⟩
   replace H := itLn H
   rcases H with ⟨_, _, H⟩ | ⟨-, c5b0, H⟩
   ·cases H
   replace H := itLn H
   rcases H with ⟨_, _, H⟩ | ⟨-, c6b0, H⟩
   ·cases H
   replace H := itEn H
   rcases H with ⟨_, _, _, H⟩ | ⟨-, c7b0, c7b1, H⟩
   ·cases H
   have H' := Aside0.mk H
   clear H
   have p513 : 0 ≤ (x5_1 : Int) := ofDec
   have q513 : x5_1 < (l0.length : Int) := ofDec
   obtain ⟨ad513, e513, hx513_0⟩ := Kd.at_string HR0.out x5_1 p513 q513
   cases e513
   replace p513 := eq_true p513
   replace q513 := eq_true q513
   have p514 : 0 ≤ (x5_1 : Int) := ofDec
   have q514 : x5_1 < (l1.length : Int) := ofDec
   obtain ⟨ad514, e514, hx514_0⟩ := Kd.at_string HR1.out x5_1 p514 q514
   cases e514
   replace p514 := eq_true p514
   replace q514 := eq_true q514
   go_wp2
   repeat (go_quiet (fail); try go_wp2)
   go_roundg k1
   case measure => have := HK1.out; omega
   case rel => exact ⟨(wrap64 (x5_1 + 1)), eqNow, H', ⟨by have := HK1.out; omega⟩, drawnNow⟩
end Go.Proofs.YtecjoofjiockkaaGreatDoor.Pp
namespace Go.Proofs.YtecjoofjiockkaaGreatDoor.Pp
open Go.RowKit Go.Proofs.YtecjoofjiockkaaGreatDoor.Ext Go.Proofs.YtecjoofjiockkaaGreatDoorW.PrintWords Go.Proofs.YtecjoofjiockkaaGreatDoorW.PrintLast Go.Proofs.YtecjoofjiockkaaGreatDoorW.PrintMore
attribute [local go_sem] max2_int min2_int max_two min_two max_three min_three max_four min_four
def selvageref10_Sides.l0 : Nat → List ByteArray → List ByteArray → Int → Int → Int → Int → Int → ByteArray → List (S53) → Option (List ByteArray × List ByteArray)
 | 0, _, _, _, _, _, _, _, _, _ => none
 | k + 1, x4, x5, x6, x662000, x662001, x662002, x662003, x662004, x662005 => if x6 < (x662005.length : Int) then (if 0 ≤ x6 then ((selvageref10_old.f ((rd_T53 x662005 x6).f0) ((rd_T53 x662005 x6).f1)).bind fun t663 => (if t663 = true then (if x4.length < 8796093022208 then ((some (x4 ++ [(rd_T53 x662005 x6).f1] : List ByteArray)).bind fun y665 => ((selvageref10_fresh.f ((rd_T53 x662005 x6).f0) ((rd_T53 x662005 x6).f1)).bind fun t669 => (if t669 = true then (if x5.length < 8796093022208 then (selvageref10_Sides.l0 k y665 (x5 ++ [(rd_T53 x662005 x6).f1]) (wrap64 (x6 + 1)) x662000 x662001 x662002 x662003 x662004 x662005) else (none)) else (selvageref10_Sides.l0 k y665 x5 (wrap64 (x6 + 1)) x662000 x662001 x662002 x662003 x662004 x662005)))) else (none)) else ((selvageref10_fresh.f ((rd_T53 x662005 x6).f0) ((rd_T53 x662005 x6).f1)).bind fun t675 => (if t675 = true then (if x5.length < 8796093022208 then (selvageref10_Sides.l0 k x4 (x5 ++ [(rd_T53 x662005 x6).f1]) (wrap64 (x6 + 1)) x662000 x662001 x662002 x662003 x662004 x662005) else (none)) else (selvageref10_Sides.l0 k x4 x5 (wrap64 (x6 + 1)) x662000 x662001 x662002 x662003 x662004 x662005))))) else (none)) else (some (x4, x5))
def selvageref10_Sides.f (k : Nat) (a0_0 : Int) (a0_1 : Int) (a0_2 : Int) (a0_3 : Int) (a0_4 : ByteArray) (l0_5 : List (S53)) : Option (List ByteArray × List ByteArray) := selvageref10_Sides.l0 k ([] : List ByteArray) ([] : List ByteArray) 0 a0_0 a0_1 a0_2 a0_3 a0_4 l0_5
set_option maxHeartbeats 8000000 in
set_option maxRecDepth 100000 in
theorem selvageref10_Sides.calls (k : Nat) (a0_0 : Int) (a0_1 : Int) (a0_2 : Int) (a0_3 : Int) (a0_4 : ByteArray) (A0_5 : Option Addr) (c0_5 : Nat) (l0_5 : List (S53)) (r1 : List ByteArray) (r2 : List ByteArray) (w : World) (hr0_5 : Kd.C k53 w A0_5 l0_5.length l0_5) (hc0_5 : l0_5.length ≤ c0_5) (h : selvageref10_Sides.f k a0_0 a0_1 a0_2 a0_3 a0_4 l0_5 = some (r1, r2)) :
  Calls Tryz.prog 32 #[.agg #[.int .i64 a0_0, .int .i64 a0_1, .int .i64 a0_2, .int .i64 a0_3, .string a0_4, .slice A0_5 l0_5.length c0_5]] w fun e w' => ∃ v0_ v1_ : Value, e = .returned (.tuple #[v0_, v1_]) ∧ Kd.R Kd.string 9 w' w.heap.size (fun k_ => some k_ ≠ (v1_ : Value).ownBlock) v0_ r1 ∧ Kd.R Kd.string 9 w' w.heap.size (fun k_ => some k_ ≠ (v0_ : Value).ownBlock) v1_ r2 ∧ Below w.heap.size w w' := by
 have hu29 := Tryz.underlying29
 have hu53 := Tryz.underlying53
 have HR0_5 := Aside0.mk hr0_5
 have HC0_5 := Aside0.mk hc0_5
 clear hr0_5 hc0_5
 have HB := Aside0.mk (Below.refl w.heap.size w)
 have H := h
 clear h
 unfold selvageref10_Sides.f at H
 have H' := Aside0.mk H
 clear H
 go_enter Tryz.func32, Tryz.ntmps32
 go_wp2_with (((with_reducible refine gate_dst (N := 1) rfl ?_); refine boxEv (N := 1) #[.int .i64 a0_0, .int .i64 a0_1, .int .i64 a0_2, .int .i64 a0_3, .string a0_4, .slice A0_5 l0_5.length c0_5] 29 ?_; intro gb661 hg w2 hbox hb; have BK661 := Aside0.mk hbox; have GW661 := gwN HB hg; have GE661 := GW661; replace HB := hbD HB hb; clear hb hbox hg))
 go_loopg [4, 5, 6] k (fun kq v4 v5 v6 w' => ∃ (x4_1 : List ByteArray) (x5_1 : List ByteArray) (x6_1 : Int), v6 = .int .i64 x6_1 ∧ Aside0 (selvageref10_Sides.l0 kq x4_1 x5_1 x6_1 a0_0 a0_1 a0_2 a0_3 a0_4 l0_5 = some (r1, r2)) ∧ Aside0 (kq ≤ k) ∧ Aside0 (Kd.R Kd.string 9 w' w.heap.size (fun k_ => some k_ ≠ (v5 : Value).ownBlock) v4 x4_1) ∧ Aside0 (Kd.R Kd.string 9 w' w.heap.size (fun k_ => some k_ ≠ (v4 : Value).ownBlock) v5 x5_1) ∧ Aside0 (w'.heap[gb661]? = some (.cells #[.int .i64 a0_0, .int .i64 a0_1, .int .i64 a0_2, .int .i64 a0_3, .string a0_4, (.slice A0_5 l0_5.length c0_5)] 29 (0, 0))) ∧ Aside0 (Below w.heap.size w w'))
 case atStart => exact ⟨(([] : List ByteArray)), (([] : List ByteArray)), (0), eqNow, H', ⟨Nat.le_refl _⟩, ⟨by first | exact Kd.R_nil _ _ _ _ _ | exact Kd.N_nil _ _ _ _ _ | exact Kd.V_nil _ _ _ _ _ | exact Kd.Q_nil _ _ _ _ _ | exact Kd.S_nil _ _ _ _ _⟩, ⟨by first | exact Kd.R_nil _ _ _ _ _ | exact Kd.N_nil _ _ _ _ _ | exact Kd.V_nil _ _ _ _ _ | exact Kd.Q_nil _ _ _ _ _ | exact Kd.S_nil _ _ _ _ _⟩, ⟨bkUp BK661.out⟩, ⟨belPut⟩⟩
 case round =>
  clear H'
  obtain ⟨x4_1, x5_1, x6_1, rfl, HA, HK1, HO_4, HO_5, BK661, HB⟩ := hrel
  cases gk with
  | zero => exact absurd HA.out (by simp [selvageref10_Sides.l0])
  | succ k1 =>
   have H := HA.out
   clear HA
   simp only [selvageref10_Sides.l0] at H
   replace H := itLn H
   rcases H with ⟨-, c3b0, H⟩ | ⟨-, c3b0, H⟩
   ·simp only [Option.some.injEq, Prod.mk.injEq] at H
    obtain ⟨rfl, rfl⟩ := H
    have hcz38_0 := bkc (v := .int .i64 a0_0) BK661.out 0 rfl
    have hcz38_1 := bkc (v := .int .i64 a0_1) BK661.out 1 rfl
    have hcz38_2 := bkc (v := .int .i64 a0_2) BK661.out 2 rfl
    have hcz38_3 := bkc (v := .int .i64 a0_3) BK661.out 3 rfl
    have hcz38_4 := bkc (v := .string a0_4) BK661.out 4 rfl
    have hcz38_5 := bkc (v := .slice A0_5 l0_5.length c0_5) BK661.out 5 rfl
    have hfz38_0 := blk_frozen BK661.out 0
    have hfz38_1 := blk_frozen BK661.out 1
    have hfz38_2 := blk_frozen BK661.out 2
    have hfz38_3 := blk_frozen BK661.out 3
    have hfz38_4 := blk_frozen BK661.out 4
    have hfz38_5 := blk_frozen BK661.out 5
    go_wp2
    go_ret2
    exact ⟨_, _, eqEnd, by (with_reducible repeat (first | apply Kd.R_alloc | apply Kd.R_drewN | apply Kd.R_drew)); exact HO_4.out, by (with_reducible repeat (first | apply Kd.R_alloc | apply Kd.R_drewN | apply Kd.R_drew)); exact HO_5.out, belPut⟩
   replace H := itLn H
   rcases H with ⟨_, _, H⟩ | ⟨-, c4b0, H⟩
   ·cases H
   replace H := bdS H
   obtain ⟨t663, A5, H⟩ := H
   replace H := itBn H
   rcases H with ⟨rfl, H⟩ | ⟨rfl, H⟩
   ·replace H := bdS H
    obtain ⟨t675, A25, H⟩ := H
    replace H := itBn H
    rcases H with ⟨rfl, H⟩ | ⟨rfl, H⟩
    ·have H' := Aside0.mk H
     clear H
     have hcz34_0 := bkc (v := .int .i64 a0_0) BK661.out 0 rfl
     have hcz34_1 := bkc (v := .int .i64 a0_1) BK661.out 1 rfl
     have hcz34_2 := bkc (v := .int .i64 a0_2) BK661.out 2 rfl
     have hcz34_3 := bkc (v := .int .i64 a0_3) BK661.out 3 rfl
     have hcz34_4 := bkc (v := .string a0_4) BK661.out 4 rfl
     have hcz34_5 := bkc (v := .slice A0_5 l0_5.length c0_5) BK661.out 5 rfl
     have hfz34_0 := blk_frozen BK661.out 0
     have hfz34_1 := blk_frozen BK661.out 1
     have hfz34_2 := blk_frozen BK661.out 2
     have hfz34_3 := blk_frozen BK661.out 3
     have hfz34_4 := blk_frozen BK661.out 4
     have hfz34_5 := blk_frozen BK661.out 5
     obtain ⟨ad662, rfl, hx662_0, hx662_1, p662, q662⟩ := atU_T53 HR0_5 HB x6_1
     go_wp2_with (first | ((with_reducible refine gate_callee (f := 68) rfl ?_); refine goL (some 19) Tryz.func68 #[.agg #[.int .i64 ((rd_T53 l0_5 x6_1).f0), .string ((rd_T53 l0_5 x6_1).f1)]] ?_; (with_reducible refine (selvageref10_old.calls ((rd_T53 l0_5 x6_1).f0) ((rd_T53 l0_5 x6_1).f1) false _ A5.out).mono ?_); rintro e w35 ⟨rfl, hb⟩; refine ⟨_, rfl, ?_⟩; replace HO_4 := Aside0.mk (Kd.R_below (kdUp HO_4.out) hb); replace HO_5 := Aside0.mk (Kd.R_below (kdUp HO_5.out) hb); replace BK661 := bkD BK661 hb; replace HB := hbD HB hb; clear hb; obtain ⟨hcz36_0, hcz36_1, hcz36_2, hcz36_3, hcz36_4, hcz36_5, hfz36_0, hfz36_1, hfz36_2, hfz36_3, hfz36_4, hfz36_5⟩ := bcf6 (W := w35) BK661; have p674 : 0 ≤ (x6_1 : Int) := ofDec; have q674 : x6_1 < (l0_5.length : Int) := ofDec; obtain ⟨ad674, e674, hx674_0, hx674_1⟩ := at_T53 HR0_5.out x6_1 p674 q674; obtain rfl : ad662 = ad674 := (by injection e674); replace hx674_0 := (HB.out.cell (World.block_lt_of_cell? w _ hx674_0)).trans hx674_0; replace hx674_1 := (HB.out.cell (World.block_lt_of_cell? w _ hx674_1)).trans hx674_1; replace p674 := eq_true p674; replace q674 := eq_true q674) | ((with_reducible refine gate_callee (f := 69) rfl ?_); refine goL (some 34) Tryz.func69 #[.agg #[.int .i64 ((rd_T53 l0_5 x6_1).f0), .string ((rd_T53 l0_5 x6_1).f1)]] ?_; (with_reducible refine (selvageref10_fresh.calls ((rd_T53 l0_5 x6_1).f0) ((rd_T53 l0_5 x6_1).f1) false _ A25.out).mono ?_); rintro e w37 ⟨rfl, hb⟩; refine ⟨_, rfl, ?_⟩; replace HO_4 := Aside0.mk (Kd.R_below (kdUp HO_4.out) hb); replace HO_5 := Aside0.mk (Kd.R_below (kdUp HO_5.out) hb); replace BK661 := bkD BK661 hb; replace HB := hbD HB hb; clear hb))
     go_roundg k1
     case measure => have := HK1.out; omega
     case rel => exact ⟨(x4_1), (x5_1), (wrap64 (x6_1 + 1)), eqNow, H', ⟨by have := HK1.out; omega⟩, ⟨kdMv HO_4⟩, ⟨kdMv HO_5⟩, ⟨bkUp BK661.out⟩, ⟨belPut⟩⟩
    replace H := itLn H
    rcases H with ⟨_, _, H⟩ | ⟨c27, -, H⟩
    ·cases H
    have LMc27 := Aside0.mk c27
    clear c27
    obtain ⟨y677, hy677⟩ : ∃ y_ : List ByteArray, y_ = (x5_1 ++ [(rd_T53 l0_5 x6_1).f1]) := ⟨_, rfl⟩
    replace H : (selvageref10_Sides.l0 k1 x4_1 y677 (wrap64 (x6_1 + 1)) a0_0 a0_1 a0_2 a0_3 a0_4 l0_5) = some (r1, r2) := by first | (rw [hy677]; with_reducible exact H) | (have H2_ := (Option.bind_some _ _).symm.trans H; rw [hy677]; with_reducible exact H2_) | (have H2_ := (Option.bind_some _ _).symm.trans H; with_reducible exact H2_) | with_reducible exact H | (rw [hy677]; exact H) | exact H
    have Ny677 := Aside0.mk hy677
    clear hy677
    have H' := Aside0.mk H
    clear H
    have hcz28_0 := bkc (v := .int .i64 a0_0) BK661.out 0 rfl
    have hcz28_1 := bkc (v := .int .i64 a0_1) BK661.out 1 rfl
    have hcz28_2 := bkc (v := .int .i64 a0_2) BK661.out 2 rfl
    have hcz28_3 := bkc (v := .int .i64 a0_3) BK661.out 3 rfl
    have hcz28_4 := bkc (v := .string a0_4) BK661.out 4 rfl
    have hcz28_5 := bkc (v := .slice A0_5 l0_5.length c0_5) BK661.out 5 rfl
    have hfz28_0 := blk_frozen BK661.out 0
    have hfz28_1 := blk_frozen BK661.out 1
    have hfz28_2 := blk_frozen BK661.out 2
    have hfz28_3 := blk_frozen BK661.out 3
    have hfz28_4 := blk_frozen BK661.out 4
    have hfz28_5 := blk_frozen BK661.out 5
    obtain ⟨ad662, rfl, hx662_0, hx662_1, p662, q662⟩ := atU_T53 HR0_5 HB x6_1
    go_wp2_with (first | ((with_reducible refine gate_callee (f := 68) rfl ?_); refine goL (some 19) Tryz.func68 #[.agg #[.int .i64 ((rd_T53 l0_5 x6_1).f0), .string ((rd_T53 l0_5 x6_1).f1)]] ?_; (with_reducible refine (selvageref10_old.calls ((rd_T53 l0_5 x6_1).f0) ((rd_T53 l0_5 x6_1).f1) false _ A5.out).mono ?_); rintro e w29 ⟨rfl, hb⟩; refine ⟨_, rfl, ?_⟩; replace HO_4 := Aside0.mk (Kd.R_below (kdUp HO_4.out) hb); replace HO_5 := Aside0.mk (Kd.R_below (kdUp HO_5.out) hb); replace BK661 := bkD BK661 hb; replace HB := hbD HB hb; clear hb; obtain ⟨hcz30_0, hcz30_1, hcz30_2, hcz30_3, hcz30_4, hcz30_5, hfz30_0, hfz30_1, hfz30_2, hfz30_3, hfz30_4, hfz30_5⟩ := bcf6 (W := w29) BK661; have p674 : 0 ≤ (x6_1 : Int) := ofDec; have q674 : x6_1 < (l0_5.length : Int) := ofDec; obtain ⟨ad674, e674, hx674_0, hx674_1⟩ := at_T53 HR0_5.out x6_1 p674 q674; obtain rfl : ad662 = ad674 := (by injection e674); replace hx674_0 := (HB.out.cell (World.block_lt_of_cell? w _ hx674_0)).trans hx674_0; replace hx674_1 := (HB.out.cell (World.block_lt_of_cell? w _ hx674_1)).trans hx674_1; replace p674 := eq_true p674; replace q674 := eq_true q674) | ((with_reducible refine gate_callee (f := 69) rfl ?_); refine goL (some 34) Tryz.func69 #[.agg #[.int .i64 ((rd_T53 l0_5 x6_1).f0), .string ((rd_T53 l0_5 x6_1).f1)]] ?_; (with_reducible refine (selvageref10_fresh.calls ((rd_T53 l0_5 x6_1).f0) ((rd_T53 l0_5 x6_1).f1) true _ A25.out).mono ?_); rintro e w31 ⟨rfl, hb⟩; refine ⟨_, rfl, ?_⟩; replace HO_4 := Aside0.mk (Kd.R_below (kdUp HO_4.out) hb); replace HO_5 := Aside0.mk (Kd.R_below (kdUp HO_5.out) hb); replace BK661 := bkD BK661 hb; replace HB := hbD HB hb; clear hb; obtain ⟨hcz32_0, hcz32_1, hcz32_2, hcz32_3, hcz32_4, hcz32_5, hfz32_0, hfz32_1, hfz32_2, hfz32_3, hfz32_4, hfz32_5⟩ := bcf6 (W := w31) BK661; have p676 : 0 ≤ (x6_1 : Int) := ofDec; have q676 : x6_1 < (l0_5.length : Int) := ofDec; obtain ⟨ad676, e676, hx676_0, hx676_1⟩ := at_T53 HR0_5.out x6_1 p676 q676; obtain rfl : ad662 = ad676 := (by injection e676); replace hx676_0 := (HB.out.cell (World.block_lt_of_cell? w _ hx676_0)).trans hx676_0; replace hx676_1 := (HB.out.cell (World.block_lt_of_cell? w _ hx676_1)).trans hx676_1; replace p676 := eq_true p676; replace q676 := eq_true q676) | ((with_reducible refine gate_builtin (b := .append) (xs := #[.tmp 35, .tmp 42]) rfl ?_); at_builtin; refine Kd.R_append Kd.string (w0 := w) w.heap.size rfl (.tmp 35) (.tmp 42) 38 9 (.string ⟨#[]⟩) 16 rfl Tryz.underlying38 info9 rfl (by decide) (by omega) u5 x5_1 ((rd_T53 l0_5 x6_1).f1) [.string ((rd_T53 l0_5 x6_1).f1)] (fun k_ => some k_ ≠ (u4 : Value).ownBlock) (fun _ => False) rfl rfl ?aP (fun _ hk => hk.elim) ?aF ?aO ?aB ?aS ?aL ?_; (case aP => exact rfl); (case aB => exact (belPut)); (case aF => exact (fun k_ hk => Kd.fresh' (Kd.R_lt (kdUp HO_4.out)) k_ hk)); (case aO => exact (kdUp HO_5.out)); (case aS => exact (below_size (belPut))); (case aL => have := LMc27.out; omega); intro v678 w33 ho hb hg hat; rw [← Ny677.out] at ho; replace HO_4 := Aside0.mk (Kd.R_after (ok := (fun _ => True)) (by (with_reducible repeat (first | apply Kd.R_alloc | apply Kd.R_drewN | apply Kd.R_drew)); exact Kd.R_mono HO_4.out (fun _ hk => ⟨trivial, hk⟩)) hg hat); replace BK661 := Aside0.mk (blk_grown (g := gb661) (o := .cells #[.int .i64 a0_0, .int .i64 a0_1, .int .i64 a0_2, .int .i64 a0_3, .string a0_4, .slice (some ad662) l0_5.length c0_5] 29 (0, 0)) (bkUp BK661.out) hg (Kd.R_ne HO_5.out BK661.out (by decide))); replace HB := Aside0.mk hb; have HO679 := Aside0.mk (ho); clear HO_5; clear ho hb hg hat))
    go_roundg k1
    case measure => have := HK1.out; omega
    case rel => exact ⟨(x4_1), (y677), (wrap64 (x6_1 + 1)), eqNow, H', ⟨by have := HK1.out; omega⟩, ⟨by (with_reducible repeat (first | apply Kd.R_alloc | apply Kd.R_drewN | apply Kd.R_drew)); exact Kd.R_mono HO_4.out (fun _ hk => hk.2)⟩, ⟨kdMv HO679⟩, ⟨bkUp BK661.out⟩, ⟨belPut⟩⟩
   replace H := itLn H
   rcases H with ⟨_, _, H⟩ | ⟨c7, -, H⟩
   ·cases H
   have LMc7 := Aside0.mk c7
   clear c7
   obtain ⟨y665, hy665⟩ : ∃ y_ : List ByteArray, y_ = (x4_1 ++ [(rd_T53 l0_5 x6_1).f1]) := ⟨_, rfl⟩
   replace H : ((selvageref10_fresh.f ((rd_T53 l0_5 x6_1).f0) ((rd_T53 l0_5 x6_1).f1)).bind fun t669 => (if t669 = true then (if x5_1.length < 8796093022208 then (selvageref10_Sides.l0 k1 y665 (x5_1 ++ [(rd_T53 l0_5 x6_1).f1]) (wrap64 (x6_1 + 1)) a0_0 a0_1 a0_2 a0_3 a0_4 l0_5) else (none)) else (selvageref10_Sides.l0 k1 y665 x5_1 (wrap64 (x6_1 + 1)) a0_0 a0_1 a0_2 a0_3 a0_4 l0_5))) = some (r1, r2) := by first | (rw [hy665]; with_reducible exact H) | (have H2_ := (Option.bind_some _ _).symm.trans H; rw [hy665]; with_reducible exact H2_) | (have H2_ := (Option.bind_some _ _).symm.trans H; with_reducible exact H2_) | with_reducible exact H | (rw [hy665]; exact H) | exact H
   have Ny665 := Aside0.mk hy665
   clear hy665
   replace H := bdS H
   obtain ⟨t669, A8, H⟩ := H
   replace H := itBn H
   rcases H with ⟨rfl, H⟩ | ⟨rfl, H⟩
   ·have H' := Aside0.mk H
    clear H
    have hcz19_0 := bkc (v := .int .i64 a0_0) BK661.out 0 rfl
    have hcz19_1 := bkc (v := .int .i64 a0_1) BK661.out 1 rfl
    have hcz19_2 := bkc (v := .int .i64 a0_2) BK661.out 2 rfl
    have hcz19_3 := bkc (v := .int .i64 a0_3) BK661.out 3 rfl
    have hcz19_4 := bkc (v := .string a0_4) BK661.out 4 rfl
    have hcz19_5 := bkc (v := .slice A0_5 l0_5.length c0_5) BK661.out 5 rfl
    have hfz19_0 := blk_frozen BK661.out 0
    have hfz19_1 := blk_frozen BK661.out 1
    have hfz19_2 := blk_frozen BK661.out 2
    have hfz19_3 := blk_frozen BK661.out 3
    have hfz19_4 := blk_frozen BK661.out 4
    have hfz19_5 := blk_frozen BK661.out 5
    obtain ⟨ad662, rfl, hx662_0, hx662_1, p662, q662⟩ := atU_T53 HR0_5 HB x6_1
    go_wp2_with (first | ((with_reducible refine gate_callee (f := 68) rfl ?_); refine goL (some 19) Tryz.func68 #[.agg #[.int .i64 ((rd_T53 l0_5 x6_1).f0), .string ((rd_T53 l0_5 x6_1).f1)]] ?_; (with_reducible refine (selvageref10_old.calls ((rd_T53 l0_5 x6_1).f0) ((rd_T53 l0_5 x6_1).f1) true _ A5.out).mono ?_); rintro e w20 ⟨rfl, hb⟩; refine ⟨_, rfl, ?_⟩; replace HO_4 := Aside0.mk (Kd.R_below (kdUp HO_4.out) hb); replace HO_5 := Aside0.mk (Kd.R_below (kdUp HO_5.out) hb); replace BK661 := bkD BK661 hb; replace HB := hbD HB hb; clear hb; obtain ⟨hcz21_0, hcz21_1, hcz21_2, hcz21_3, hcz21_4, hcz21_5, hfz21_0, hfz21_1, hfz21_2, hfz21_3, hfz21_4, hfz21_5⟩ := bcf6 (W := w20) BK661; have p664 : 0 ≤ (x6_1 : Int) := ofDec; have q664 : x6_1 < (l0_5.length : Int) := ofDec; obtain ⟨ad664, e664, hx664_0, hx664_1⟩ := at_T53 HR0_5.out x6_1 p664 q664; obtain rfl : ad662 = ad664 := (by injection e664); replace hx664_0 := (HB.out.cell (World.block_lt_of_cell? w _ hx664_0)).trans hx664_0; replace hx664_1 := (HB.out.cell (World.block_lt_of_cell? w _ hx664_1)).trans hx664_1; replace p664 := eq_true p664; replace q664 := eq_true q664) | ((with_reducible refine gate_builtin (b := .append) (xs := #[.tmp 20, .tmp 27]) rfl ?_); at_builtin; refine Kd.R_append Kd.string (w0 := w) w.heap.size rfl (.tmp 20) (.tmp 27) 38 9 (.string ⟨#[]⟩) 16 rfl Tryz.underlying38 info9 rfl (by decide) (by omega) u4 x4_1 ((rd_T53 l0_5 x6_1).f1) [.string ((rd_T53 l0_5 x6_1).f1)] (fun k_ => some k_ ≠ (u5 : Value).ownBlock) (fun _ => False) rfl rfl ?aP (fun _ hk => hk.elim) ?aF ?aO ?aB ?aS ?aL ?_; (case aP => exact rfl); (case aB => exact (belPut)); (case aF => exact (fun k_ hk => Kd.fresh' (Kd.R_lt (kdUp HO_5.out)) k_ hk)); (case aO => exact (kdUp HO_4.out)); (case aS => exact (below_size (belPut))); (case aL => have := LMc7.out; omega); intro v666 w22 ho hb hg hat; rw [← Ny665.out] at ho; replace HO_5 := Aside0.mk (Kd.R_after (ok := (fun _ => True)) (by (with_reducible repeat (first | apply Kd.R_alloc | apply Kd.R_drewN | apply Kd.R_drew)); exact Kd.R_mono HO_5.out (fun _ hk => ⟨trivial, hk⟩)) hg hat); replace BK661 := Aside0.mk (blk_grown (g := gb661) (o := .cells #[.int .i64 a0_0, .int .i64 a0_1, .int .i64 a0_2, .int .i64 a0_3, .string a0_4, .slice (some ad662) l0_5.length c0_5] 29 (0, 0)) (bkUp BK661.out) hg (Kd.R_ne HO_4.out BK661.out (by decide))); replace HB := Aside0.mk hb; have HO667 := Aside0.mk (ho); clear HO_4; clear ho hb hg hat; obtain ⟨hcz23_0, hcz23_1, hcz23_2, hcz23_3, hcz23_4, hcz23_5, hfz23_0, hfz23_1, hfz23_2, hfz23_3, hfz23_4, hfz23_5⟩ := bcf6 (W := w22) BK661; have p668 : 0 ≤ (x6_1 : Int) := ofDec; have q668 : x6_1 < (l0_5.length : Int) := ofDec; obtain ⟨ad668, e668, hx668_0, hx668_1⟩ := at_T53 HR0_5.out x6_1 p668 q668; obtain rfl : ad662 = ad668 := (by injection e668); replace hx668_0 := (HB.out.cell (World.block_lt_of_cell? w _ hx668_0)).trans hx668_0; replace hx668_1 := (HB.out.cell (World.block_lt_of_cell? w _ hx668_1)).trans hx668_1; replace p668 := eq_true p668; replace q668 := eq_true q668) | ((with_reducible refine gate_callee (f := 69) rfl ?_); refine goL (some 34) Tryz.func69 #[.agg #[.int .i64 ((rd_T53 l0_5 x6_1).f0), .string ((rd_T53 l0_5 x6_1).f1)]] ?_; (with_reducible refine (selvageref10_fresh.calls ((rd_T53 l0_5 x6_1).f0) ((rd_T53 l0_5 x6_1).f1) false _ A8.out).mono ?_); rintro e w24 ⟨rfl, hb⟩; refine ⟨_, rfl, ?_⟩; replace HO_5 := Aside0.mk (Kd.R_below (kdUp HO_5.out) hb); replace HO667 := Aside0.mk (Kd.R_below (kdUp HO667.out) hb); replace BK661 := bkD BK661 hb; replace HB := hbD HB hb; clear hb))
    go_roundg k1
    case measure => have := HK1.out; omega
    case rel => exact ⟨(y665), (x5_1), (wrap64 (x6_1 + 1)), eqNow, H', ⟨by have := HK1.out; omega⟩, ⟨kdMv HO667⟩, ⟨by (with_reducible repeat (first | apply Kd.R_alloc | apply Kd.R_drewN | apply Kd.R_drew)); exact Kd.R_mono HO_5.out (fun _ hk => hk.2)⟩, ⟨bkUp BK661.out⟩, ⟨belPut⟩⟩
   replace H := itLn H
   rcases H with ⟨_, _, H⟩ | ⟨c10, -, H⟩
   ·cases H
   have LMc10 := Aside0.mk c10
   clear c10
   obtain ⟨y671, hy671⟩ : ∃ y_ : List ByteArray, y_ = (x5_1 ++ [(rd_T53 l0_5 x6_1).f1]) := ⟨_, rfl⟩
   replace H : (selvageref10_Sides.l0 k1 y665 y671 (wrap64 (x6_1 + 1)) a0_0 a0_1 a0_2 a0_3 a0_4 l0_5) = some (r1, r2) := by first | (rw [hy671]; with_reducible exact H) | (have H2_ := (Option.bind_some _ _).symm.trans H; rw [hy671]; with_reducible exact H2_) | (have H2_ := (Option.bind_some _ _).symm.trans H; with_reducible exact H2_) | with_reducible exact H | (rw [hy671]; exact H) | exact H
   have Ny671 := Aside0.mk hy671
   clear hy671
   have H' := Aside0.mk H
   clear H
   have hcz11_0 := bkc (v := .int .i64 a0_0) BK661.out 0 rfl
   have hcz11_1 := bkc (v := .int .i64 a0_1) BK661.out 1 rfl
   have hcz11_2 := bkc (v := .int .i64 a0_2) BK661.out 2 rfl
   have hcz11_3 := bkc (v := .int .i64 a0_3) BK661.out 3 rfl
   have hcz11_4 := bkc (v := .string a0_4) BK661.out 4 rfl
   have hcz11_5 := bkc (v := .slice A0_5 l0_5.length c0_5) BK661.out 5 rfl
   have hfz11_0 := blk_frozen BK661.out 0
   have hfz11_1 := blk_frozen BK661.out 1
   have hfz11_2 := blk_frozen BK661.out 2
   have hfz11_3 := blk_frozen BK661.out 3
   have hfz11_4 := blk_frozen BK661.out 4
   have hfz11_5 := blk_frozen BK661.out 5
   obtain ⟨ad662, rfl, hx662_0, hx662_1, p662, q662⟩ := atU_T53 HR0_5 HB x6_1
   go_wp2_with (first | ((with_reducible refine gate_callee (f := 68) rfl ?_); refine goL (some 19) Tryz.func68 #[.agg #[.int .i64 ((rd_T53 l0_5 x6_1).f0), .string ((rd_T53 l0_5 x6_1).f1)]] ?_; (with_reducible refine (selvageref10_old.calls ((rd_T53 l0_5 x6_1).f0) ((rd_T53 l0_5 x6_1).f1) true _ A5.out).mono ?_); rintro e w12 ⟨rfl, hb⟩; refine ⟨_, rfl, ?_⟩; replace HO_4 := Aside0.mk (Kd.R_below (kdUp HO_4.out) hb); replace HO_5 := Aside0.mk (Kd.R_below (kdUp HO_5.out) hb); replace BK661 := bkD BK661 hb; replace HB := hbD HB hb; clear hb; obtain ⟨hcz13_0, hcz13_1, hcz13_2, hcz13_3, hcz13_4, hcz13_5, hfz13_0, hfz13_1, hfz13_2, hfz13_3, hfz13_4, hfz13_5⟩ := bcf6 (W := w12) BK661; have p664 : 0 ≤ (x6_1 : Int) := ofDec; have q664 : x6_1 < (l0_5.length : Int) := ofDec; obtain ⟨ad664, e664, hx664_0, hx664_1⟩ := at_T53 HR0_5.out x6_1 p664 q664; obtain rfl : ad662 = ad664 := (by injection e664); replace hx664_0 := (HB.out.cell (World.block_lt_of_cell? w _ hx664_0)).trans hx664_0; replace hx664_1 := (HB.out.cell (World.block_lt_of_cell? w _ hx664_1)).trans hx664_1; replace p664 := eq_true p664; replace q664 := eq_true q664) | ((with_reducible refine gate_builtin (b := .append) (xs := #[.tmp 20, .tmp 27]) rfl ?_); at_builtin; refine Kd.R_append Kd.string (w0 := w) w.heap.size rfl (.tmp 20) (.tmp 27) 38 9 (.string ⟨#[]⟩) 16 rfl Tryz.underlying38 info9 rfl (by decide) (by omega) u4 x4_1 ((rd_T53 l0_5 x6_1).f1) [.string ((rd_T53 l0_5 x6_1).f1)] (fun k_ => some k_ ≠ (u5 : Value).ownBlock) (fun _ => False) rfl rfl ?aP (fun _ hk => hk.elim) ?aF ?aO ?aB ?aS ?aL ?_; (case aP => exact rfl); (case aB => exact (belPut)); (case aF => exact (fun k_ hk => Kd.fresh' (Kd.R_lt (kdUp HO_5.out)) k_ hk)); (case aO => exact (kdUp HO_4.out)); (case aS => exact (below_size (belPut))); (case aL => have := LMc7.out; omega); intro v666 w14 ho hb hg hat; rw [← Ny665.out] at ho; replace HO_5 := Aside0.mk (Kd.R_after (ok := (fun _ => True)) (by (with_reducible repeat (first | apply Kd.R_alloc | apply Kd.R_drewN | apply Kd.R_drew)); exact Kd.R_mono HO_5.out (fun _ hk => ⟨trivial, hk⟩)) hg hat); replace BK661 := Aside0.mk (blk_grown (g := gb661) (o := .cells #[.int .i64 a0_0, .int .i64 a0_1, .int .i64 a0_2, .int .i64 a0_3, .string a0_4, .slice (some ad662) l0_5.length c0_5] 29 (0, 0)) (bkUp BK661.out) hg (Kd.R_ne HO_4.out BK661.out (by decide))); replace HB := Aside0.mk hb; have HO667 := Aside0.mk (ho); clear HO_4; clear ho hb hg hat; obtain ⟨hcz15_0, hcz15_1, hcz15_2, hcz15_3, hcz15_4, hcz15_5, hfz15_0, hfz15_1, hfz15_2, hfz15_3, hfz15_4, hfz15_5⟩ := bcf6 (W := w14) BK661; have p668 : 0 ≤ (x6_1 : Int) := ofDec; have q668 : x6_1 < (l0_5.length : Int) := ofDec; obtain ⟨ad668, e668, hx668_0, hx668_1⟩ := at_T53 HR0_5.out x6_1 p668 q668; obtain rfl : ad662 = ad668 := (by injection e668); replace hx668_0 := (HB.out.cell (World.block_lt_of_cell? w _ hx668_0)).trans hx668_0; replace hx668_1 := (HB.out.cell (World.block_lt_of_cell? w _ hx668_1)).trans hx668_1; replace p668 := eq_true p668; replace q668 := eq_true q668) | ((with_reducible refine gate_callee (f := 69) rfl ?_); refine goL (some 34) Tryz.func69 #[.agg #[.int .i64 ((rd_T53 l0_5 x6_1).f0), .string ((rd_T53 l0_5 x6_1).f1)]] ?_; (with_reducible refine (selvageref10_fresh.calls ((rd_T53 l0_5 x6_1).f0) ((rd_T53 l0_5 x6_1).f1) true _ A8.out).mono ?_); rintro e w16 ⟨rfl, hb⟩; refine ⟨_, rfl, ?_⟩; replace HO_5 := Aside0.mk (Kd.R_below (kdUp HO_5.out) hb); replace HO667 := Aside0.mk (Kd.R_below (kdUp HO667.out) hb); replace BK661 := bkD BK661 hb; replace HB := hbD HB hb; clear hb; obtain ⟨hcz17_0, hcz17_1, hcz17_2, hcz17_3, hcz17_4, hcz17_5, hfz17_0, hfz17_1, hfz17_2, hfz17_3, hfz17_4, hfz17_5⟩ := bcf6 (W := w16) BK661; have p670 : 0 ≤ (x6_1 : Int) := ofDec; have q670 : x6_1 < (l0_5.length : Int) := ofDec; obtain ⟨ad670, e670, hx670_0, hx670_1⟩ := at_T53 HR0_5.out x6_1 p670 q670; obtain rfl : ad662 = ad670 := (by injection e670); replace hx670_0 := (HB.out.cell (World.block_lt_of_cell? w _ hx670_0)).trans hx670_0; replace hx670_1 := (HB.out.cell (World.block_lt_of_cell? w _ hx670_1)).trans hx670_1; replace p670 := eq_true p670; replace q670 := eq_true q670) | ((with_reducible refine gate_builtin (b := .append) (xs := #[.tmp 35, .tmp 42]) rfl ?_); at_builtin; refine Kd.R_append Kd.string (w0 := w) w.heap.size rfl (.tmp 35) (.tmp 42) 38 9 (.string ⟨#[]⟩) 16 rfl Tryz.underlying38 info9 rfl (by decide) (by omega) u5 x5_1 ((rd_T53 l0_5 x6_1).f1) [.string ((rd_T53 l0_5 x6_1).f1)] (fun k_ => some k_ ≠ (v666 : Value).ownBlock) (fun _ => False) rfl rfl ?aP (fun _ hk => hk.elim) ?aF ?aO ?aB ?aS ?aL ?_; (case aP => exact rfl); (case aB => exact (belPut)); (case aF => exact (fun k_ hk => Kd.fresh' (Kd.R_lt (kdUp HO667.out)) k_ hk)); (case aO => exact (by (with_reducible repeat (first | apply Kd.R_alloc | apply Kd.R_drewN | apply Kd.R_drew)); exact Kd.R_mono HO_5.out (fun _ hk => hk.2))); (case aS => exact (below_size (belPut))); (case aL => have := LMc10.out; omega); intro v672 w18 ho hb hg hat; rw [← Ny671.out] at ho; replace BK661 := Aside0.mk (blk_grown (g := gb661) (o := .cells #[.int .i64 a0_0, .int .i64 a0_1, .int .i64 a0_2, .int .i64 a0_3, .string a0_4, .slice (some ad662) l0_5.length c0_5] 29 (0, 0)) (bkUp BK661.out) hg (Kd.R_ne HO_5.out BK661.out (by decide))); replace HO667 := Aside0.mk (Kd.R_after (ok := (fun _ => True)) (by (with_reducible repeat (first | apply Kd.R_alloc | apply Kd.R_drewN | apply Kd.R_drew)); exact Kd.R_mono HO667.out (fun _ hk => ⟨trivial, hk⟩)) hg hat); replace HB := Aside0.mk hb; have HO673 := Aside0.mk (ho); clear HO_5; clear ho hb hg hat))
   go_roundg k1
   case measure => have := HK1.out; omega
   case rel => exact ⟨(y665), (y671), (wrap64 (x6_1 + 1)), eqNow, H', ⟨by have := HK1.out; omega⟩, ⟨by (with_reducible repeat (first | apply Kd.R_alloc | apply Kd.R_drewN | apply Kd.R_drew)); exact Kd.R_mono HO667.out (fun _ hk => hk.2)⟩, ⟨kdMv HO673⟩, ⟨bkUp BK661.out⟩, ⟨belPut⟩⟩
end Go.Proofs.YtecjoofjiockkaaGreatDoor.Pp
