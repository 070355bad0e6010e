import Derived.Test.YtecjoofjiockkaaGreatDoorESt
import Derived.Test.YtecjoofjiockkaaGreatDoorPp0
namespace Go.Proofs.YtecjoofjiockkaaGreatDoor.Pp
open Go.RowKit Go.Proofs.YtecjoofjiockkaaGreatDoor.Ext Go.Proofs.YtecjoofjiockkaaGreatDoorW.PrintWords Go.Proofs.YtecjoofjiockkaaGreatDoorW.PrintLast Go.Proofs.YtecjoofjiockkaaGreatDoorW.PrintMore
attribute [local go_sem] max2_int min2_int max_two min_two max_three min_three max_four min_four   -- for this text's walks alone
set_option linter.unusedVariables false
set_option linter.unusedSimpArgs false
mutual
def hunks_Sides.l0 : Nat → List ByteArray → List ByteArray → List (S53) → Int → Int → Option (List ByteArray × List ByteArray)
 | 0, _, _, _, _, _ => none
 | k + 1, x4, x5, x9, x10, x11 => if x11 < x10 then (if 0 ≤ x11 then (if x11 < (x9.length : Int) then (if ((rd_T53 x9 x11).f0) = 1 then (hunks_Sides.j1 k x4 x5 x9 x10 x11 true ((rd_T53 x9 x11).f0) ((rd_T53 x9 x11).f1)) else (hunks_Sides.j1 k x4 x5 x9 x10 x11 (((rd_T53 x9 x11).f0) == 2) ((rd_T53 x9 x11).f0) ((rd_T53 x9 x11).f1))) else (none)) else (none)) else (some (x4, x5))
def hunks_Sides.j1 : Nat → List ByteArray → List ByteArray → List (S53) → Int → Int → Bool → Int → ByteArray → Option (List ByteArray × List ByteArray)
 | 0, _, _, _, _, _, _, _, _ => none
 | k + 1, x4, x5, x9, x10, x11, x22, x543000, x543001 => if x22 = true then (if x4.length < 8796093022208 then ((some (x4 ++ [x543001] : List ByteArray)).bind fun y543 => (if x543000 = 1 then (if x5.length < 8796093022208 then (hunks_Sides.l0 k y543 (x5 ++ [x543001]) x9 x10 (wrap64 (x11 + 1))) else (none)) else (if x543000 = 3 then (if x5.length < 8796093022208 then (hunks_Sides.l0 k y543 (x5 ++ [x543001]) x9 x10 (wrap64 (x11 + 1))) else (none)) else (hunks_Sides.l0 k y543 x5 x9 x10 (wrap64 (x11 + 1)))))) else (none)) else (if x543000 = 1 then (if x5.length < 8796093022208 then (hunks_Sides.l0 k x4 (x5 ++ [x543001]) x9 x10 (wrap64 (x11 + 1))) else (none)) else (if x543000 = 3 then (if x5.length < 8796093022208 then (hunks_Sides.l0 k x4 (x5 ++ [x543001]) x9 x10 (wrap64 (x11 + 1))) else (none)) else (hunks_Sides.l0 k x4 x5 x9 x10 (wrap64 (x11 + 1)))))
end
def hunks_Sides.f (k : Nat) (a0_0 : Int) (a0_1 : Int) (a0_2 : Int) (a0_3 : Int) (a0_4 : ByteArray) (l0_5 : List (S53)) : Option (List ByteArray × List ByteArray) := hunks_Sides.l0 k ([] : List ByteArray) ([] : List ByteArray) l0_5 (l0_5.length : Int) 0
set_option maxHeartbeats 8000000 in
set_option maxRecDepth 100000 in
theorem hunks_Sides.calls (k : Nat) (a0_0 : Int) (a0_1 : Int) (a0_2 : Int) (a0_3 : Int) (a0_4 : ByteArray) (A0_5 : Option Addr) (c0_5 : Nat) (l0_5 : List (S53)) (r1 : List ByteArray) (r2 : List ByteArray) (w : World) (hr0_5 : Kd.C k53 w A0_5 l0_5.length l0_5) (hc0_5 : l0_5.length ≤ c0_5) (h : hunks_Sides.f k a0_0 a0_1 a0_2 a0_3 a0_4 l0_5 = some (r1, r2)) :
  Calls Tryz.prog 31 #[.agg #[.int .i64 a0_0, .int .i64 a0_1, .int .i64 a0_2, .int .i64 a0_3, .string a0_4, .slice A0_5 l0_5.length c0_5]] w fun e w' => ∃ v0_ v1_ : Value, e = .returned (.tuple #[v0_, v1_]) ∧ Kd.R Kd.string 9 w' w.heap.size (fun k_ => some k_ ≠ (v1_ : Value).ownBlock) v0_ r1 ∧ Kd.R Kd.string 9 w' w.heap.size (fun k_ => some k_ ≠ (v0_ : Value).ownBlock) v1_ r2 ∧ Below w.heap.size w w' := by
 have hu29 := Tryz.underlying29
 have hu53 := Tryz.underlying53
 have HR0_5 := Aside0.mk hr0_5
 have HC0_5 := Aside0.mk hc0_5
 clear hr0_5 hc0_5
 have HB := Aside0.mk (Below.refl w.heap.size w)
 have H := h
 clear h
 unfold hunks_Sides.f at H
 have H' := Aside0.mk H
 clear H
 go_enter Tryz.func31, Tryz.ntmps31
 go_wp2_with (first | ((with_reducible refine gate_dst (N := 1) rfl ?_); refine boxEv (N := 1) #[.int .i64 a0_0, .int .i64 a0_1, .int .i64 a0_2, .int .i64 a0_3, .string a0_4, .slice A0_5 l0_5.length c0_5] 29 ?_; intro gb540 hg w2 hbox hb; have BK540 := Aside0.mk hbox; have GW540 := gwN HB hg; have GE540 := GW540; replace HB := hbD HB hb; clear hb hbox hg; obtain ⟨hcz3_0, hcz3_1, hcz3_2, hcz3_3, hcz3_4, hcz3_5, hfz3_0, hfz3_1, hfz3_2, hfz3_3, hfz3_4, hfz3_5⟩ := bcf6 (W := w2) BK540))
 go_loopg [4, 5, 11] k (fun kq v4 v5 v11 w' => ∃ (x4_1 : List ByteArray) (x5_1 : List ByteArray) (x11_1 : Int), v11 = .int .i64 x11_1 ∧ Aside0 (hunks_Sides.l0 kq x4_1 x5_1 l0_5 (l0_5.length : Int) x11_1 = some (r1, r2)) ∧ Aside0 (kq ≤ k) ∧ Aside0 (Kd.R Kd.string 9 w' w.heap.size (fun k_ => some k_ ≠ (v5 : Value).ownBlock) v4 x4_1) ∧ Aside0 (Kd.R Kd.string 9 w' w.heap.size (fun k_ => some k_ ≠ (v4 : Value).ownBlock) v5 x5_1) ∧ Aside0 (w'.heap[gb540]? = some (.cells #[.int .i64 a0_0, .int .i64 a0_1, .int .i64 a0_2, .int .i64 a0_3, .string a0_4, (.slice A0_5 l0_5.length c0_5)] 29 (0, 0))) ∧ Aside0 (Below w.heap.size w w'))
 case atStart => exact ⟨(([] : List ByteArray)), (([] : List ByteArray)), (0), eqNow, H', ⟨Nat.le_refl _⟩, ⟨by first | exact Kd.R_nil _ _ _ _ _ | exact Kd.N_nil _ _ _ _ _ | exact Kd.V_nil _ _ _ _ _ | exact Kd.Q_nil _ _ _ _ _ | exact Kd.S_nil _ _ _ _ _⟩, ⟨by first | exact Kd.R_nil _ _ _ _ _ | exact Kd.N_nil _ _ _ _ _ | exact Kd.V_nil _ _ _ _ _ | exact Kd.Q_nil _ _ _ _ _ | exact Kd.S_nil _ _ _ _ _⟩, ⟨bkUp BK540.out⟩, ⟨belPut⟩⟩
 case round =>
  clear H'
  try clear hcz3_0 hcz3_1 hcz3_2 hcz3_3 hcz3_4 hcz3_5 hfz3_0 hfz3_1 hfz3_2 hfz3_3 hfz3_4 hfz3_5
  obtain ⟨x4_1, x5_1, x11_1, rfl, HA, HK1, HO_4, HO_5, BK540, HB⟩ := hrel
  cases gk with
  | zero => exact absurd HA.out (by simp [hunks_Sides.l0])
  | succ k1 =>
   have H := HA.out
   clear HA
   simp only [hunks_Sides.l0] at H
   replace H := itLn H
   rcases H with ⟨-, c4b0, H⟩ | ⟨-, c4b0, H⟩
   ·simp only [Option.some.injEq, Prod.mk.injEq] at H
    obtain ⟨rfl, rfl⟩ := H
    go_wp2
    go_ret2
    exact ⟨_, _, eqEnd, by (with_reducible repeat (first | apply Kd.R_alloc | apply Kd.R_drewN | apply Kd.R_drew)); exact HO_4.out, by (with_reducible repeat (first | apply Kd.R_alloc | apply Kd.R_drewN | apply Kd.R_drew)); exact HO_5.out, belPut⟩
   replace H := itLn H
   rcases H with ⟨_, _, H⟩ | ⟨-, c5b0, H⟩
   ·cases H
   replace H := itLn H
   rcases H with ⟨_, _, H⟩ | ⟨-, c6b0, H⟩
   ·cases H
   have HC7 := Aside0.mk H
   clear H
   obtain ⟨ad541, rfl, hx541_0, hx541_1, p541, q541⟩ := atU_T53 HR0_5 HB x11_1
   go_upto_region 5 with (first | ((with_reducible refine gate_dst (N := 7) rfl ?_); refine boxEv (N := 7) #[.int .i64 0, .string (⟨#[]⟩ : ByteArray)] 53 ?_; intro gb542 hg w8 hbox hb; replace HO_4 := Aside0.mk (Kd.R_below (kdUp HO_4.out) hb); replace HO_5 := Aside0.mk (Kd.R_below (kdUp HO_5.out) hb); have BK542 := Aside0.mk hbox; have GW542 := gwN HB hg; have GE542 := GW542; replace HB := hbD HB hb; have NB540_542 := nbL BK540 hg; have NB542_540 := nbR BK540 hg; replace BK540 := bkD BK540 hb; clear hb hbox hg; have hnb9 := NB542_540.out; have hnc9 := NB540_542.out; obtain ⟨hcz10_0, hcz10_1, hfz10_0, hfz10_1⟩ := bcf2 (W := w8) BK542))
   (try simp only [Act.put, List.setIfInBounds_toArray, List.set_cons_zero, List.set_cons_succ])
   go_cut [22] (fun v22 wc => ∃ (kq : Nat) (x22_6 : Bool), v22 = .bool x22_6 ∧ Aside0 (hunks_Sides.j1 kq x4_1 x5_1 l0_5 (l0_5.length : Int) x11_1 x22_6 ((rd_T53 l0_5 x11_1).f0) ((rd_T53 l0_5 x11_1).f1) = some (r1, r2)) ∧ Aside0 (kq ≤ k1) ∧ Aside0 (Kd.R Kd.string 9 wc w.heap.size (fun k_ => some k_ ≠ (u5 : Value).ownBlock) u4 x4_1) ∧ Aside0 (Kd.R Kd.string 9 wc w.heap.size (fun k_ => some k_ ≠ (u4 : Value).ownBlock) u5 x5_1) ∧ Aside0 (wc.heap[gb540]? = some (.cells #[.int .i64 a0_0, .int .i64 a0_1, .int .i64 a0_2, .int .i64 a0_3, .string a0_4, (.slice (some ad541) l0_5.length c0_5)] 29 (0, 0))) ∧ Aside0 (wc.heap[gb542]? = some (.cells #[.int .i64 ((rd_T53 l0_5 x11_1).f0), .string ((rd_T53 l0_5 x11_1).f1)] 53 (0, 0))) ∧ Aside0 (Below w.heap.size w wc))
   case first =>
    have H := HC7.out
    clear HC7
    replace H := itE H
    rcases H with ⟨-, c11b0, c11b1, H⟩ | ⟨c11, c11b0, c11b1, H⟩
    ·(first | rw [c11b0] | (simp only [i64_w, i32_w]; rw [c11b0]) | skip)
     have H' := Aside0.mk H
     clear H
     have hnb12 := NB542_540.out
     have hnc12 := NB540_542.out
     have hcz13_0 := bkc (v := .int .i64 0) BK542.out 0 rfl
     have hcz13_1 := bkc (v := .string (⟨#[]⟩ : ByteArray)) BK542.out 1 rfl
     have hfz13_0 := blk_frozen BK542.out 0
     have hfz13_1 := blk_frozen BK542.out 1
     go_wp2
     go_meet
     case rel => exact ⟨_, (true), eqNow, H', ⟨by have := HK1.out; first | omega | exact Nat.le_refl _⟩, ⟨by (with_reducible repeat (first | apply Kd.R_alloc | apply Kd.R_drewN | apply Kd.R_drew)); exact Kd.R_mono (Kd.R_far (p := ⟨gb542, 1, none⟩) (Kd.R_far (p := ⟨gb542, 0, none⟩) (Kd.R_types HO_4.out BK542.out (by decide)) (fun _ hk => hk.2) (.int .i64 ((rd_T53 l0_5 x11_1).f0))) (fun _ hk => hk.2) (.string ((rd_T53 l0_5 x11_1).f1))) (fun _ hk => hk.1)⟩, ⟨by (with_reducible repeat (first | apply Kd.R_alloc | apply Kd.R_drewN | apply Kd.R_drew)); exact Kd.R_mono (Kd.R_far (p := ⟨gb542, 1, none⟩) (Kd.R_far (p := ⟨gb542, 0, none⟩) (Kd.R_types HO_5.out BK542.out (by decide)) (fun _ hk => hk.2) (.int .i64 ((rd_T53 l0_5 x11_1).f0))) (fun _ hk => hk.2) (.string ((rd_T53 l0_5 x11_1).f1))) (fun _ hk => hk.1)⟩, ⟨bkT BK540⟩, ⟨bkT BK542⟩, ⟨belPut⟩⟩
    (first | rw [c11b0] | (simp only [i64_w, i32_w]; rw [c11b0]) | skip)
    have H' := Aside0.mk H
    clear H
    have hnb14 := NB542_540.out
    have hnc14 := NB540_542.out
    have hcz15_0 := bkc (v := .int .i64 0) BK542.out 0 rfl
    have hcz15_1 := bkc (v := .string (⟨#[]⟩ : ByteArray)) BK542.out 1 rfl
    have hfz15_0 := blk_frozen BK542.out 0
    have hfz15_1 := blk_frozen BK542.out 1
    go_wp2
    go_meet
    case rel => exact ⟨_, ((((rd_T53 l0_5 x11_1).f0) == 2)), eqNow, H', ⟨by have := HK1.out; first | omega | exact Nat.le_refl _⟩, ⟨by (with_reducible repeat (first | apply Kd.R_alloc | apply Kd.R_drewN | apply Kd.R_drew)); exact Kd.R_mono (Kd.R_far (p := ⟨gb542, 1, none⟩) (Kd.R_far (p := ⟨gb542, 0, none⟩) (Kd.R_types HO_4.out BK542.out (by decide)) (fun _ hk => hk.2) (.int .i64 ((rd_T53 l0_5 x11_1).f0))) (fun _ hk => hk.2) (.string ((rd_T53 l0_5 x11_1).f1))) (fun _ hk => hk.1)⟩, ⟨by (with_reducible repeat (first | apply Kd.R_alloc | apply Kd.R_drewN | apply Kd.R_drew)); exact Kd.R_mono (Kd.R_far (p := ⟨gb542, 1, none⟩) (Kd.R_far (p := ⟨gb542, 0, none⟩) (Kd.R_types HO_5.out BK542.out (by decide)) (fun _ hk => hk.2) (.int .i64 ((rd_T53 l0_5 x11_1).f0))) (fun _ hk => hk.2) (.string ((rd_T53 l0_5 x11_1).f1))) (fun _ hk => hk.1)⟩, ⟨bkT BK540⟩, ⟨bkT BK542⟩, ⟨belPut⟩⟩
   case rest =>
    clear HC7
    try clear c4
    try clear c4b0
    try clear c5
    try clear c5b0
    try clear c6
    try clear c6b0
    try clear hcz10_0 hcz10_1
    try clear hcz3_0 hcz3_1 hcz3_2 hcz3_3 hcz3_4 hcz3_5
    try clear hfz10_0 hfz10_1
    try clear hfz3_0 hfz3_1 hfz3_2 hfz3_3 hfz3_4 hfz3_5
    try clear hx541_0
    try clear hx541_1
    try clear p541
    try clear q541
    obtain ⟨kq, x22_6, rfl, HA, HJ6, HO_4, HO_5, BK540, BK542, HB⟩ := hcut
    cases kq with
    | zero => exact absurd HA.out (by simp [hunks_Sides.j1])
    | succ kj6 =>
     have H := HA.out
     clear HA
     simp only [hunks_Sides.j1] at H
     replace H := itBn H
     rcases H with ⟨rfl, H⟩ | ⟨rfl, H⟩
     ·replace H := itE H
      rcases H with ⟨-, c36b0, c36b1, H⟩ | ⟨c36, c36b0, c36b1, H⟩
      ·replace H := itLn H
       rcases H with ⟨_, _, H⟩ | ⟨c37, -, H⟩
       ·cases H
       have LMc37 := Aside0.mk c37
       clear c37
       obtain ⟨y552, hy552⟩ : ∃ y_ : List ByteArray, y_ = (x5_1 ++ [((rd_T53 l0_5 x11_1).f1)]) := ⟨_, rfl⟩
       replace H : (hunks_Sides.l0 kj6 x4_1 y552 l0_5 (l0_5.length : Int) (wrap64 (x11_1 + 1))) = some (r1, r2) := by first | (rw [hy552]; with_reducible exact H) | (have H2_ := (Option.bind_some _ _).symm.trans H; rw [hy552]; with_reducible exact H2_) | (have H2_ := (Option.bind_some _ _).symm.trans H; with_reducible exact H2_) | with_reducible exact H | (rw [hy552]; exact H) | exact H
       have Ny552 := Aside0.mk hy552
       clear hy552
       have H' := Aside0.mk H
       clear H
       have hnb38 := NB542_540.out
       have hnc38 := NB540_542.out
       have hcz39_0 := bkc (v := .int .i64 ((rd_T53 l0_5 x11_1).f0)) BK542.out 0 rfl
       have hcz39_1 := bkc (v := .string ((rd_T53 l0_5 x11_1).f1)) BK542.out 1 rfl
       have hfz39_0 := blk_frozen BK542.out 0
       have hfz39_1 := blk_frozen BK542.out 1
       go_wp2_with (first | ((with_reducible refine gate_builtin (b := .append) (xs := #[.tmp 36, .tmp 39]) rfl ?_); at_builtin; refine Kd.R_append Kd.string (w0 := w) w.heap.size rfl (.tmp 36) (.tmp 39) 38 9 (.string ⟨#[]⟩) 16 rfl Tryz.underlying38 info9 rfl (by decide) (by omega) u5 x5_1 ((rd_T53 l0_5 x11_1).f1) [.string ((rd_T53 l0_5 x11_1).f1)] (fun k_ => some k_ ≠ (u4 : Value).ownBlock) (fun _ => False) rfl rfl ?aP (fun _ hk => hk.elim) ?aF ?aO ?aB ?aS ?aL ?_; (case aP => exact rfl); (case aB => exact (belPut)); (case aF => exact (fun k_ hk => Kd.fresh' (Kd.R_lt (kdUp HO_4.out)) k_ hk)); (case aO => exact (kdUp HO_5.out)); (case aS => exact (below_size (belPut))); (case aL => have := LMc37.out; omega); intro v553 w40 ho hb hg hat; rw [← Ny552.out] at ho; replace HO_4 := Aside0.mk (Kd.R_after (ok := (fun _ => True)) (by (with_reducible repeat (first | apply Kd.R_alloc | apply Kd.R_drewN | apply Kd.R_drew)); exact Kd.R_mono HO_4.out (fun _ hk => ⟨trivial, hk⟩)) hg hat); replace BK540 := Aside0.mk (blk_grown (g := gb540) (o := .cells #[.int .i64 a0_0, .int .i64 a0_1, .int .i64 a0_2, .int .i64 a0_3, .string a0_4, .slice (some ad541) l0_5.length c0_5] 29 (0, 0)) (bkUp BK540.out) hg (Kd.R_ne HO_5.out BK540.out (by decide))); replace BK542 := Aside0.mk (blk_grown (g := gb542) (o := .cells #[.int .i64 ((rd_T53 l0_5 x11_1).f0), .string ((rd_T53 l0_5 x11_1).f1)] 53 (0, 0)) (bkUp BK542.out) hg (Kd.R_ne HO_5.out BK542.out (by decide))); replace HB := Aside0.mk hb; have HO554 := Aside0.mk (ho); clear HO_5; clear ho hb hg hat))
       go_roundg kj6
       case measure => have := HK1.out; have := HJ6.out; omega
       case rel => exact ⟨(x4_1), (y552), (wrap64 (x11_1 + 1)), eqNow, H', ⟨by have := HK1.out; have := HJ6.out; omega⟩, ⟨by (with_reducible repeat (first | apply Kd.R_alloc | apply Kd.R_drewN | apply Kd.R_drew)); exact Kd.R_mono HO_4.out (fun _ hk => hk.2)⟩, ⟨kdMv HO554⟩, ⟨bkUp BK540.out⟩, ⟨belPut⟩⟩
      replace H := itEn H
      rcases H with ⟨c41, c41b0, c41b1, H⟩ | ⟨-, c41b0, c41b1, H⟩
      ·have H' := Aside0.mk H
       clear H
       have hnb46 := NB542_540.out
       have hnc46 := NB540_542.out
       have hcz47_0 := bkc (v := .int .i64 ((rd_T53 l0_5 x11_1).f0)) BK542.out 0 rfl
       have hcz47_1 := bkc (v := .string ((rd_T53 l0_5 x11_1).f1)) BK542.out 1 rfl
       have hfz47_0 := blk_frozen BK542.out 0
       have hfz47_1 := blk_frozen BK542.out 1
       go_wp2
       go_roundg kj6
       case measure => have := HK1.out; have := HJ6.out; omega
       case rel => exact ⟨(x4_1), (x5_1), (wrap64 (x11_1 + 1)), eqNow, H', ⟨by have := HK1.out; have := HJ6.out; omega⟩, ⟨kdMv HO_4⟩, ⟨kdMv HO_5⟩, ⟨bkUp BK540.out⟩, ⟨belPut⟩⟩
      replace H := itLn H
      rcases H with ⟨_, _, H⟩ | ⟨c42, -, H⟩
      ·cases H
      have LMc42 := Aside0.mk c42
      clear c42
      obtain ⟨y555, hy555⟩ : ∃ y_ : List ByteArray, y_ = (x5_1 ++ [((rd_T53 l0_5 x11_1).f1)]) := ⟨_, rfl⟩
      replace H : (hunks_Sides.l0 kj6 x4_1 y555 l0_5 (l0_5.length : Int) (wrap64 (x11_1 + 1))) = some (r1, r2) := by first | (rw [hy555]; with_reducible exact H) | (have H2_ := (Option.bind_some _ _).symm.trans H; rw [hy555]; with_reducible exact H2_) | (have H2_ := (Option.bind_some _ _).symm.trans H; with_reducible exact H2_) | with_reducible exact H | (rw [hy555]; exact H) | exact H
      have Ny555 := Aside0.mk hy555
      clear hy555
      have H' := Aside0.mk H
      clear H
      have hnb43 := NB542_540.out
      have hnc43 := NB540_542.out
      have hcz44_0 := bkc (v := .int .i64 ((rd_T53 l0_5 x11_1).f0)) BK542.out 0 rfl
      have hcz44_1 := bkc (v := .string ((rd_T53 l0_5 x11_1).f1)) BK542.out 1 rfl
      have hfz44_0 := blk_frozen BK542.out 0
      have hfz44_1 := blk_frozen BK542.out 1
      go_wp2_with (first | ((with_reducible refine gate_builtin (b := .append) (xs := #[.tmp 36, .tmp 39]) rfl ?_); at_builtin; refine Kd.R_append Kd.string (w0 := w) w.heap.size rfl (.tmp 36) (.tmp 39) 38 9 (.string ⟨#[]⟩) 16 rfl Tryz.underlying38 info9 rfl (by decide) (by omega) u5 x5_1 ((rd_T53 l0_5 x11_1).f1) [.string ((rd_T53 l0_5 x11_1).f1)] (fun k_ => some k_ ≠ (u4 : Value).ownBlock) (fun _ => False) rfl rfl ?aP (fun _ hk => hk.elim) ?aF ?aO ?aB ?aS ?aL ?_; (case aP => exact rfl); (case aB => exact (belPut)); (case aF => exact (fun k_ hk => Kd.fresh' (Kd.R_lt (kdUp HO_4.out)) k_ hk)); (case aO => exact (kdUp HO_5.out)); (case aS => exact (below_size (belPut))); (case aL => have := LMc42.out; omega); intro v556 w45 ho hb hg hat; rw [← Ny555.out] at ho; replace HO_4 := Aside0.mk (Kd.R_after (ok := (fun _ => True)) (by (with_reducible repeat (first | apply Kd.R_alloc | apply Kd.R_drewN | apply Kd.R_drew)); exact Kd.R_mono HO_4.out (fun _ hk => ⟨trivial, hk⟩)) hg hat); replace BK540 := Aside0.mk (blk_grown (g := gb540) (o := .cells #[.int .i64 a0_0, .int .i64 a0_1, .int .i64 a0_2, .int .i64 a0_3, .string a0_4, .slice (some ad541) l0_5.length c0_5] 29 (0, 0)) (bkUp BK540.out) hg (Kd.R_ne HO_5.out BK540.out (by decide))); replace BK542 := Aside0.mk (blk_grown (g := gb542) (o := .cells #[.int .i64 ((rd_T53 l0_5 x11_1).f0), .string ((rd_T53 l0_5 x11_1).f1)] 53 (0, 0)) (bkUp BK542.out) hg (Kd.R_ne HO_5.out BK542.out (by decide))); replace HB := Aside0.mk hb; have HO557 := Aside0.mk (ho); clear HO_5; clear ho hb hg hat))
      go_roundg kj6
      case measure => have := HK1.out; have := HJ6.out; omega
      case rel => exact ⟨(x4_1), (y555), (wrap64 (x11_1 + 1)), eqNow, H', ⟨by have := HK1.out; have := HJ6.out; omega⟩, ⟨by (with_reducible repeat (first | apply Kd.R_alloc | apply Kd.R_drewN | apply Kd.R_drew)); exact Kd.R_mono HO_4.out (fun _ hk => hk.2)⟩, ⟨kdMv HO557⟩, ⟨bkUp BK540.out⟩, ⟨belPut⟩⟩
     replace H := itLn H
     rcases H with ⟨_, _, H⟩ | ⟨c17, -, H⟩
     ·cases H
     have LMc17 := Aside0.mk c17
     clear c17
     obtain ⟨y543, hy543⟩ : ∃ y_ : List ByteArray, y_ = (x4_1 ++ [((rd_T53 l0_5 x11_1).f1)]) := ⟨_, rfl⟩
     replace H : (if ((rd_T53 l0_5 x11_1).f0) = 1 then (if x5_1.length < 8796093022208 then (hunks_Sides.l0 kj6 y543 (x5_1 ++ [((rd_T53 l0_5 x11_1).f1)]) l0_5 (l0_5.length : Int) (wrap64 (x11_1 + 1))) else (none)) else (if ((rd_T53 l0_5 x11_1).f0) = 3 then (if x5_1.length < 8796093022208 then (hunks_Sides.l0 kj6 y543 (x5_1 ++ [((rd_T53 l0_5 x11_1).f1)]) l0_5 (l0_5.length : Int) (wrap64 (x11_1 + 1))) else (none)) else (hunks_Sides.l0 kj6 y543 x5_1 l0_5 (l0_5.length : Int) (wrap64 (x11_1 + 1))))) = some (r1, r2) := by first | (rw [hy543]; with_reducible exact H) | (have H2_ := (Option.bind_some _ _).symm.trans H; rw [hy543]; with_reducible exact H2_) | (have H2_ := (Option.bind_some _ _).symm.trans H; with_reducible exact H2_) | with_reducible exact H | (rw [hy543]; exact H) | exact H
     have Ny543 := Aside0.mk hy543
     clear hy543
     replace H := itE H
     rcases H with ⟨-, c18b0, c18b1, H⟩ | ⟨c18, c18b0, c18b1, H⟩
     ·replace H := itLn H
      rcases H with ⟨_, _, H⟩ | ⟨c19, -, H⟩
      ·cases H
      have LMc19 := Aside0.mk c19
      clear c19
      obtain ⟨y546, hy546⟩ : ∃ y_ : List ByteArray, y_ = (x5_1 ++ [((rd_T53 l0_5 x11_1).f1)]) := ⟨_, rfl⟩
      replace H : (hunks_Sides.l0 kj6 y543 y546 l0_5 (l0_5.length : Int) (wrap64 (x11_1 + 1))) = some (r1, r2) := by first | (rw [hy546]; with_reducible exact H) | (have H2_ := (Option.bind_some _ _).symm.trans H; rw [hy546]; with_reducible exact H2_) | (have H2_ := (Option.bind_some _ _).symm.trans H; with_reducible exact H2_) | with_reducible exact H | (rw [hy546]; exact H) | exact H
      have Ny546 := Aside0.mk hy546
      clear hy546
      have H' := Aside0.mk H
      clear H
      have hnb20 := NB542_540.out
      have hnc20 := NB540_542.out
      have hcz21_0 := bkc (v := .int .i64 ((rd_T53 l0_5 x11_1).f0)) BK542.out 0 rfl
      have hcz21_1 := bkc (v := .string ((rd_T53 l0_5 x11_1).f1)) BK542.out 1 rfl
      have hfz21_0 := blk_frozen BK542.out 0
      have hfz21_1 := blk_frozen BK542.out 1
      go_wp2_with (first | ((with_reducible refine gate_builtin (b := .append) (xs := #[.tmp 23, .tmp 26]) rfl ?_); at_builtin; refine Kd.R_append Kd.string (w0 := w) w.heap.size rfl (.tmp 23) (.tmp 26) 38 9 (.string ⟨#[]⟩) 16 rfl Tryz.underlying38 info9 rfl (by decide) (by omega) u4 x4_1 ((rd_T53 l0_5 x11_1).f1) [.string ((rd_T53 l0_5 x11_1).f1)] (fun k_ => some k_ ≠ (u5 : Value).ownBlock) (fun _ => False) rfl rfl ?aP (fun _ hk => hk.elim) ?aF ?aO ?aB ?aS ?aL ?_; (case aP => exact rfl); (case aB => exact (belPut)); (case aF => exact (fun k_ hk => Kd.fresh' (Kd.R_lt (kdUp HO_5.out)) k_ hk)); (case aO => exact (kdUp HO_4.out)); (case aS => exact (below_size (belPut))); (case aL => have := LMc17.out; omega); intro v544 w22 ho hb hg hat; rw [← Ny543.out] at ho; replace HO_5 := Aside0.mk (Kd.R_after (ok := (fun _ => True)) (by (with_reducible repeat (first | apply Kd.R_alloc | apply Kd.R_drewN | apply Kd.R_drew)); exact Kd.R_mono HO_5.out (fun _ hk => ⟨trivial, hk⟩)) hg hat); replace BK540 := Aside0.mk (blk_grown (g := gb540) (o := .cells #[.int .i64 a0_0, .int .i64 a0_1, .int .i64 a0_2, .int .i64 a0_3, .string a0_4, .slice (some ad541) l0_5.length c0_5] 29 (0, 0)) (bkUp BK540.out) hg (Kd.R_ne HO_4.out BK540.out (by decide))); replace BK542 := Aside0.mk (blk_grown (g := gb542) (o := .cells #[.int .i64 ((rd_T53 l0_5 x11_1).f0), .string ((rd_T53 l0_5 x11_1).f1)] 53 (0, 0)) (bkUp BK542.out) hg (Kd.R_ne HO_4.out BK542.out (by decide))); replace HB := Aside0.mk hb; have HO545 := Aside0.mk (ho); clear HO_4; clear ho hb hg hat; obtain ⟨hcz23_0, hcz23_1, hfz23_0, hfz23_1⟩ := bcf2 (W := w22) BK542) | ((with_reducible refine gate_builtin (b := .append) (xs := #[.tmp 36, .tmp 39]) rfl ?_); at_builtin; refine Kd.R_append Kd.string (w0 := w) w.heap.size rfl (.tmp 36) (.tmp 39) 38 9 (.string ⟨#[]⟩) 16 rfl Tryz.underlying38 info9 rfl (by decide) (by omega) u5 x5_1 ((rd_T53 l0_5 x11_1).f1) [.string ((rd_T53 l0_5 x11_1).f1)] (fun k_ => some k_ ≠ (v544 : Value).ownBlock) (fun _ => False) rfl rfl ?aP (fun _ hk => hk.elim) ?aF ?aO ?aB ?aS ?aL ?_; (case aP => exact rfl); (case aB => exact (belPut)); (case aF => exact (fun k_ hk => Kd.fresh' (Kd.R_lt (kdUp HO545.out)) k_ hk)); (case aO => exact (by (with_reducible repeat (first | apply Kd.R_alloc | apply Kd.R_drewN | apply Kd.R_drew)); exact Kd.R_mono HO_5.out (fun _ hk => hk.2))); (case aS => exact (below_size (belPut))); (case aL => have := LMc19.out; omega); intro v547 w24 ho hb hg hat; rw [← Ny546.out] at ho; replace BK540 := Aside0.mk (blk_grown (g := gb540) (o := .cells #[.int .i64 a0_0, .int .i64 a0_1, .int .i64 a0_2, .int .i64 a0_3, .string a0_4, .slice (some ad541) l0_5.length c0_5] 29 (0, 0)) (bkUp BK540.out) hg (Kd.R_ne HO_5.out BK540.out (by decide))); replace BK542 := Aside0.mk (blk_grown (g := gb542) (o := .cells #[.int .i64 ((rd_T53 l0_5 x11_1).f0), .string ((rd_T53 l0_5 x11_1).f1)] 53 (0, 0)) (bkUp BK542.out) hg (Kd.R_ne HO_5.out BK542.out (by decide))); replace HO545 := Aside0.mk (Kd.R_after (ok := (fun _ => True)) (by (with_reducible repeat (first | apply Kd.R_alloc | apply Kd.R_drewN | apply Kd.R_drew)); exact Kd.R_mono HO545.out (fun _ hk => ⟨trivial, hk⟩)) hg hat); replace HB := Aside0.mk hb; have HO548 := Aside0.mk (ho); clear HO_5; clear ho hb hg hat))
      go_roundg kj6
      case measure => have := HK1.out; have := HJ6.out; omega
      case rel => exact ⟨(y543), (y546), (wrap64 (x11_1 + 1)), eqNow, H', ⟨by have := HK1.out; have := HJ6.out; omega⟩, ⟨by (with_reducible repeat (first | apply Kd.R_alloc | apply Kd.R_drewN | apply Kd.R_drew)); exact Kd.R_mono HO545.out (fun _ hk => hk.2)⟩, ⟨kdMv HO548⟩, ⟨bkUp BK540.out⟩, ⟨belPut⟩⟩
     replace H := itEn H
     rcases H with ⟨c25, c25b0, c25b1, H⟩ | ⟨-, c25b0, c25b1, H⟩
     ·have H' := Aside0.mk H
      clear H
      have hnb32 := NB542_540.out
      have hnc32 := NB540_542.out
      have hcz33_0 := bkc (v := .int .i64 ((rd_T53 l0_5 x11_1).f0)) BK542.out 0 rfl
      have hcz33_1 := bkc (v := .string ((rd_T53 l0_5 x11_1).f1)) BK542.out 1 rfl
      have hfz33_0 := blk_frozen BK542.out 0
      have hfz33_1 := blk_frozen BK542.out 1
      go_wp2_with (first | ((with_reducible refine gate_builtin (b := .append) (xs := #[.tmp 23, .tmp 26]) rfl ?_); at_builtin; refine Kd.R_append Kd.string (w0 := w) w.heap.size rfl (.tmp 23) (.tmp 26) 38 9 (.string ⟨#[]⟩) 16 rfl Tryz.underlying38 info9 rfl (by decide) (by omega) u4 x4_1 ((rd_T53 l0_5 x11_1).f1) [.string ((rd_T53 l0_5 x11_1).f1)] (fun k_ => some k_ ≠ (u5 : Value).ownBlock) (fun _ => False) rfl rfl ?aP (fun _ hk => hk.elim) ?aF ?aO ?aB ?aS ?aL ?_; (case aP => exact rfl); (case aB => exact (belPut)); (case aF => exact (fun k_ hk => Kd.fresh' (Kd.R_lt (kdUp HO_5.out)) k_ hk)); (case aO => exact (kdUp HO_4.out)); (case aS => exact (below_size (belPut))); (case aL => have := LMc17.out; omega); intro v544 w34 ho hb hg hat; rw [← Ny543.out] at ho; replace HO_5 := Aside0.mk (Kd.R_after (ok := (fun _ => True)) (by (with_reducible repeat (first | apply Kd.R_alloc | apply Kd.R_drewN | apply Kd.R_drew)); exact Kd.R_mono HO_5.out (fun _ hk => ⟨trivial, hk⟩)) hg hat); replace BK540 := Aside0.mk (blk_grown (g := gb540) (o := .cells #[.int .i64 a0_0, .int .i64 a0_1, .int .i64 a0_2, .int .i64 a0_3, .string a0_4, .slice (some ad541) l0_5.length c0_5] 29 (0, 0)) (bkUp BK540.out) hg (Kd.R_ne HO_4.out BK540.out (by decide))); replace BK542 := Aside0.mk (blk_grown (g := gb542) (o := .cells #[.int .i64 ((rd_T53 l0_5 x11_1).f0), .string ((rd_T53 l0_5 x11_1).f1)] 53 (0, 0)) (bkUp BK542.out) hg (Kd.R_ne HO_4.out BK542.out (by decide))); replace HB := Aside0.mk hb; have HO545 := Aside0.mk (ho); clear HO_4; clear ho hb hg hat; obtain ⟨hcz35_0, hcz35_1, hfz35_0, hfz35_1⟩ := bcf2 (W := w34) BK542))
      go_roundg kj6
      case measure => have := HK1.out; have := HJ6.out; omega
      case rel => exact ⟨(y543), (x5_1), (wrap64 (x11_1 + 1)), eqNow, H', ⟨by have := HK1.out; have := HJ6.out; omega⟩, ⟨kdMv HO545⟩, ⟨by (with_reducible repeat (first | apply Kd.R_alloc | apply Kd.R_drewN | apply Kd.R_drew)); exact Kd.R_mono HO_5.out (fun _ hk => hk.2)⟩, ⟨bkUp BK540.out⟩, ⟨belPut⟩⟩
     replace H := itLn H
     rcases H with ⟨_, _, H⟩ | ⟨c26, -, H⟩
     ·cases H
     have LMc26 := Aside0.mk c26
     clear c26
     obtain ⟨y549, hy549⟩ : ∃ y_ : List ByteArray, y_ = (x5_1 ++ [((rd_T53 l0_5 x11_1).f1)]) := ⟨_, rfl⟩
     replace H : (hunks_Sides.l0 kj6 y543 y549 l0_5 (l0_5.length : Int) (wrap64 (x11_1 + 1))) = some (r1, r2) := by first | (rw [hy549]; with_reducible exact H) | (have H2_ := (Option.bind_some _ _).symm.trans H; rw [hy549]; with_reducible exact H2_) | (have H2_ := (Option.bind_some _ _).symm.trans H; with_reducible exact H2_) | with_reducible exact H | (rw [hy549]; exact H) | exact H
     have Ny549 := Aside0.mk hy549
     clear hy549
     have H' := Aside0.mk H
     clear H
     have hnb27 := NB542_540.out
     have hnc27 := NB540_542.out
     have hcz28_0 := bkc (v := .int .i64 ((rd_T53 l0_5 x11_1).f0)) BK542.out 0 rfl
     have hcz28_1 := bkc (v := .string ((rd_T53 l0_5 x11_1).f1)) BK542.out 1 rfl
     have hfz28_0 := blk_frozen BK542.out 0
     have hfz28_1 := blk_frozen BK542.out 1
     go_wp2_with (first | ((with_reducible refine gate_builtin (b := .append) (xs := #[.tmp 23, .tmp 26]) rfl ?_); at_builtin; refine Kd.R_append Kd.string (w0 := w) w.heap.size rfl (.tmp 23) (.tmp 26) 38 9 (.string ⟨#[]⟩) 16 rfl Tryz.underlying38 info9 rfl (by decide) (by omega) u4 x4_1 ((rd_T53 l0_5 x11_1).f1) [.string ((rd_T53 l0_5 x11_1).f1)] (fun k_ => some k_ ≠ (u5 : Value).ownBlock) (fun _ => False) rfl rfl ?aP (fun _ hk => hk.elim) ?aF ?aO ?aB ?aS ?aL ?_; (case aP => exact rfl); (case aB => exact (belPut)); (case aF => exact (fun k_ hk => Kd.fresh' (Kd.R_lt (kdUp HO_5.out)) k_ hk)); (case aO => exact (kdUp HO_4.out)); (case aS => exact (below_size (belPut))); (case aL => have := LMc17.out; omega); intro v544 w29 ho hb hg hat; rw [← Ny543.out] at ho; replace HO_5 := Aside0.mk (Kd.R_after (ok := (fun _ => True)) (by (with_reducible repeat (first | apply Kd.R_alloc | apply Kd.R_drewN | apply Kd.R_drew)); exact Kd.R_mono HO_5.out (fun _ hk => ⟨trivial, hk⟩)) hg hat); replace BK540 := Aside0.mk (blk_grown (g := gb540) (o := .cells #[.int .i64 a0_0, .int .i64 a0_1, .int .i64 a0_2, .int .i64 a0_3, .string a0_4, .slice (some ad541) l0_5.length c0_5] 29 (0, 0)) (bkUp BK540.out) hg (Kd.R_ne HO_4.out BK540.out (by decide))); replace BK542 := Aside0.mk (blk_grown (g := gb542) (o := .cells #[.int .i64 ((rd_T53 l0_5 x11_1).f0), .string ((rd_T53 l0_5 x11_1).f1)] 53 (0, 0)) (bkUp BK542.out) hg (Kd.R_ne HO_4.out BK542.out (by decide))); replace HB := Aside0.mk hb; have HO545 := Aside0.mk (ho); clear HO_4; clear ho hb hg hat; obtain ⟨hcz30_0, hcz30_1, hfz30_0, hfz30_1⟩ := bcf2 (W := w29) BK542) | ((with_reducible refine gate_builtin (b := .append) (xs := #[.tmp 36, .tmp 39]) rfl ?_); at_builtin; refine Kd.R_append Kd.string (w0 := w) w.heap.size rfl (.tmp 36) (.tmp 39) 38 9 (.string ⟨#[]⟩) 16 rfl Tryz.underlying38 info9 rfl (by decide) (by omega) u5 x5_1 ((rd_T53 l0_5 x11_1).f1) [.string ((rd_T53 l0_5 x11_1).f1)] (fun k_ => some k_ ≠ (v544 : Value).ownBlock) (fun _ => False) rfl rfl ?aP (fun _ hk => hk.elim) ?aF ?aO ?aB ?aS ?aL ?_; (case aP => exact rfl); (case aB => exact (belPut)); (case aF => exact (fun k_ hk => Kd.fresh' (Kd.R_lt (kdUp HO545.out)) k_ hk)); (case aO => exact (by (with_reducible repeat (first | apply Kd.R_alloc | apply Kd.R_drewN | apply Kd.R_drew)); exact Kd.R_mono HO_5.out (fun _ hk => hk.2))); (case aS => exact (below_size (belPut))); (case aL => have := LMc26.out; omega); intro v550 w31 ho hb hg hat; rw [← Ny549.out] at ho; replace BK540 := Aside0.mk (blk_grown (g := gb540) (o := .cells #[.int .i64 a0_0, .int .i64 a0_1, .int .i64 a0_2, .int .i64 a0_3, .string a0_4, .slice (some ad541) l0_5.length c0_5] 29 (0, 0)) (bkUp BK540.out) hg (Kd.R_ne HO_5.out BK540.out (by decide))); replace BK542 := Aside0.mk (blk_grown (g := gb542) (o := .cells #[.int .i64 ((rd_T53 l0_5 x11_1).f0), .string ((rd_T53 l0_5 x11_1).f1)] 53 (0, 0)) (bkUp BK542.out) hg (Kd.R_ne HO_5.out BK542.out (by decide))); replace HO545 := Aside0.mk (Kd.R_after (ok := (fun _ => True)) (by (with_reducible repeat (first | apply Kd.R_alloc | apply Kd.R_drewN | apply Kd.R_drew)); exact Kd.R_mono HO545.out (fun _ hk => ⟨trivial, hk⟩)) hg hat); replace HB := Aside0.mk hb; have HO551 := Aside0.mk (ho); clear HO_5; clear ho hb hg hat))
     go_roundg kj6
     case measure => have := HK1.out; have := HJ6.out; omega
     case rel => exact ⟨(y543), (y549), (wrap64 (x11_1 + 1)), eqNow, H', ⟨by have := HK1.out; have := HJ6.out; omega⟩, ⟨by (with_reducible repeat (first | apply Kd.R_alloc | apply Kd.R_drewN | apply Kd.R_drew)); exact Kd.R_mono HO545.out (fun _ hk => hk.2)⟩, ⟨kdMv HO551⟩, ⟨bkUp BK540.out⟩, ⟨belPut⟩⟩
def hunks_counted.f (k : Nat) (a0_0 : Int) (a0_1 : Int) (a0_2 : Int) (a0_3 : Int) (a0_4 : ByteArray) (l0_5 : List (S53)) (a1 : Int) (a2 : Int) : Option (Int × Int × Int × Int × ByteArray × (List (S53))) := (hunks_Sides.f k a0_0 a0_1 a0_2 a0_3 a0_4 l0_5).bind fun bt560 => (if (bt560.1.length : Int) > 0 then (if (bt560.2.length : Int) > 0 then (some (wrap64 (a1 + 1), (bt560.1.length : Int), wrap64 (a2 + 1), (bt560.2.length : Int), a0_4, l0_5)) else (some (wrap64 (a1 + 1), (bt560.1.length : Int), a2, (bt560.2.length : Int), a0_4, l0_5))) else (if (bt560.2.length : Int) > 0 then (some (a1, (bt560.1.length : Int), wrap64 (a2 + 1), (bt560.2.length : Int), a0_4, l0_5)) else (some (a1, (bt560.1.length : Int), a2, (bt560.2.length : Int), a0_4, l0_5))))
theorem at_blk {w : World} {o : Obj} {n : Nat} (h : w.heap.size = n) : (w.alloc o).heap[n]? = some o := by rw [← h]; exact blk_new w o
structure CntIn (w : World) (g3 g6 : Nat) (cs : Array Value) (W : World) : Prop where
  below : Below w.heap.size w W
  b3 : W.heap[g3]? = some (.cells cs 29 (0, 0))
  b6 : W.heap[g6]? = some (.cells #[.int .i64 0, .int .i64 0, .int .i64 0, .int .i64 0, .string ⟨#[]⟩, .slice none 0 0] 29 (0, 0))
  l3 : w.heap.size ≤ g3
  l6 : w.heap.size ≤ g6
  n : g3 ≠ g6
theorem CntIn.then {w W W2 : World} {g3 g6 : Nat} {cs : Array Value} (i : CntIn w g3 g6 cs W) (k : Below W.heap.size W W2) : CntIn w g3 g6 cs W2 := ⟨below_step i.below k, blk_below i.b3 k, blk_below i.b6 k, i.l3, i.l6, i.n⟩
theorem CntIn.set {w W : World} {g3 g6 : Nat} {cs cs' : Array Value} (i : CntIn w g3 g6 cs W) (j : Nat) (y : Value) (e : cs.setIfInBounds j y = cs') : CntIn w g3 g6 cs' (W.setCell ⟨g3, j, none⟩ y) :=
  ⟨below_set i.below i.l3, e ▸ blk_set i.b3 j y, blk_far i.b6 i.n.symm y, i.l3, i.l6, i.n⟩
def upF (a : Int) (l : List ByteArray) : Int := if 0 < (l.length : Int) then wrap64 (a + 1) else a
set_option maxHeartbeats 8000000 in
set_option maxRecDepth 100000 in
theorem hunks_counted.calls (k : Nat) (a0_0 : Int) (a0_1 : Int) (a0_2 : Int) (a0_3 : Int) (a0_4 : ByteArray) (P0_5_ : Nat → Prop) (u9000_ : Value) (l0_5 : List (S53)) (a1 : Int) (a2 : Int) (r1 : Int) (r2 : Int) (r3 : Int) (r4 : Int) (r5 : ByteArray) (r6 : List (S53)) (w0 w : World) (hB : Below w0.heap.size w0 w) (ho0_5 : Kd.R k53 53 w w0.heap.size P0_5_ u9000_ l0_5) (h : hunks_counted.f k a0_0 a0_1 a0_2 a0_3 a0_4 l0_5 a1 a2 = some (r1, r2, r3, r4, r5, r6)) :
  Calls Tryz.prog 63 #[.agg #[.int .i64 a0_0, .int .i64 a0_1, .int .i64 a0_2, .int .i64 a0_3, .string a0_4, u9000_], .int .i64 a1, .int .i64 a2] w fun e w' => ∃ v5_ : Value, e = .returned (.agg #[.int .i64 r1, .int .i64 r2, .int .i64 r3, .int .i64 r4, .string r5, v5_]) ∧ Kd.R k53 53 w' w0.heap.size (fun k_ => (P0_5_ k_ ∨ w.heap.size ≤ k_)) v5_ r6 ∧ Below w0.heap.size w0 w' ∧ Kept w w' (fun k_ => P0_5_ k_) := by
 obtain ⟨A, c, rfl⟩ := Kd.R_slice ho0_5
 have HO := Aside0.mk ho0_5
 have HB := Aside0.mk hB
 clear ho0_5 hB
 unfold hunks_counted.f at h
 obtain ⟨⟨t1, t2⟩, hs, h⟩ := Option.bind_eq_some_iff.mp h
 have HS := Aside0.mk hs
 clear hs
 suffices hgoal : Calls Tryz.prog 63 #[.agg #[.int .i64 a0_0, .int .i64 a0_1, .int .i64 a0_2, .int .i64 a0_3, .string a0_4, .slice A l0_5.length c], .int .i64 a1, .int .i64 a2] w fun e w' => e = .returned (.agg #[.int .i64 (upF a1 t1), .int .i64 (t1.length : Int), .int .i64 (upF a2 t2), .int .i64 (t2.length : Int), .string a0_4, .slice A l0_5.length c]) ∧ Below w.heap.size w w' by
  have he : r1 = (upF a1 t1) ∧ r2 = (t1.length : Int) ∧ r3 = (upF a2 t2) ∧ r4 = (t2.length : Int) ∧ r5 = a0_4 ∧ r6 = l0_5 := by
   simp only [gt_iff_lt] at h
   split at h <;> rename_i h1 <;> split at h <;> rename_i h2 <;> simp only [Option.some.injEq, Prod.mk.injEq] at h <;> obtain ⟨rfl, rfl, rfl, rfl, rfl, rfl⟩ := h <;> exact ⟨by unfold upF; first | exact (if_pos h1).symm | exact (if_neg h1).symm, rfl, by unfold upF; first | exact (if_pos h2).symm | exact (if_neg h2).symm, rfl, rfl, rfl⟩
  obtain ⟨rfl, rfl, rfl, rfl, rfl, rfl⟩ := he
  refine hgoal.mono ?_
  rintro e w' ⟨rfl, hb⟩
  exact ⟨_, rfl, Kd.R_mono (Kd.R_below HO.out hb) (fun _ hk => .inl hk), below_step HB.out hb, Kept.of_below hb _⟩
 clear h
 have hu29 := Tryz.underlying29
 go_enter Tryz.func63, Tryz.ntmps63
 go_upto_region 1 with (fail)
 have HX := Aside0.mk (show CntIn w w.heap.size (w.heap.size + 1) #[.int .i64 a0_0, .int .i64 a0_1, .int .i64 a0_2, .int .i64 a0_3, .string a0_4, .slice A l0_5.length c] ((w.alloc (Obj.cells #[Value.int IntKind.i64 a0_0, Value.int IntKind.i64 a0_1, Value.int IntKind.i64 a0_2, Value.int IntKind.i64 a0_3, Value.string a0_4, Value.slice A l0_5.length c] 29)).alloc (Obj.cells #[Value.int IntKind.i64 0, Value.int IntKind.i64 0, Value.int IntKind.i64 0, Value.int IntKind.i64 0, Value.string { data := #[] }, Value.slice none 0 0] 29)) from
  ⟨below_alloc (below_alloc (Below.refl _ _) _) _, blk_alloc (blk_new w _) _, at_blk (by simp), Nat.le_refl _, by omega, by omega⟩)
 generalize (w.alloc (Obj.cells #[Value.int IntKind.i64 a0_0, Value.int IntKind.i64 a0_1, Value.int IntKind.i64 a0_2, Value.int IntKind.i64 a0_3, Value.string a0_4, Value.slice A l0_5.length c] 29)).alloc (Obj.cells #[Value.int IntKind.i64 0, Value.int IntKind.i64 0, Value.int IntKind.i64 0, Value.int IntKind.i64 0, Value.string { data := #[] }, Value.slice none 0 0] 29) = W1 at HX ⊢
 generalize w.heap.size + 1 = g6 at HX ⊢
 generalize hg3 : w.heap.size = g3 at HX ⊢
 have k0 := (blk_cell HX.out.b3 0).trans rfl
 have k1 := (blk_cell HX.out.b3 1).trans rfl
 have k2 := (blk_cell HX.out.b3 2).trans rfl
 have k3 := (blk_cell HX.out.b3 3).trans rfl
 have k4 := (blk_cell HX.out.b3 4).trans rfl
 have k5 := (blk_cell HX.out.b3 5).trans rfl
 go_upto_region 2 with (go_at_call 31; (with_reducible refine (hunks_Sides.calls k _ _ _ _ _ _ _ l0_5 t1 t2 _ ?s1 ?s2 HS.out).mono ?_); (case s1 => exact Kd.C_below (Kd.R_reads' HO.out).2.2 (hg3 ▸ HX.out.below)); (case s2 => exact (Kd.R_reads' HO.out).2.1); rintro e w2 ⟨v0, v1, rfl, hv0, hv1, hb⟩; have HX2 := Aside0.mk (HX.out.then hb); obtain ⟨A0, c0, rfl⟩ := Kd.R_slice hv0; obtain ⟨A1, c1, rfl⟩ := Kd.R_slice hv1; clear hv0 hv1 hb HX k0 k1 k2 k3 k4 k5)
 have k0 := (blk_cell HX2.out.b3 0).trans rfl
 have yk0 := blk_frozen HX2.out.b3 0
 have k1 := (blk_cell HX2.out.b3 1).trans rfl
 have yk1 := blk_frozen HX2.out.b3 1
 have k2 := (blk_cell HX2.out.b3 2).trans rfl
 have yk2 := blk_frozen HX2.out.b3 2
 have k3 := (blk_cell HX2.out.b3 3).trans rfl
 have yk3 := blk_frozen HX2.out.b3 3
 have k4 := (blk_cell HX2.out.b3 4).trans rfl
 have yk4 := blk_frozen HX2.out.b3 4
 have k5 := (blk_cell HX2.out.b3 5).trans rfl
 have yk5 := blk_frozen HX2.out.b3 5
 go_upto_region 3 with (fail)
 have HX3 := Aside0.mk ((((HX2.out.set 0 (.int .i64 a1) rfl).set 1 (.int .i64 (t1.length : Int)) rfl).set 2 (.int .i64 a2) rfl).set 3 (.int .i64 (t2.length : Int)) (cs' := #[.int .i64 a1, .int .i64 (t1.length : Int), .int .i64 a2, .int .i64 (t2.length : Int), .string a0_4, .slice A l0_5.length c]) rfl)
 clear k0 yk0 k1 yk1 k2 yk2 k3 yk3 k4 yk4 k5 yk5
 clear HX2
 generalize (((w2.setCell ⟨g3, 0, none⟩ (.int .i64 a1)).setCell ⟨g3, 1, none⟩ (.int .i64 (t1.length : Int))).setCell ⟨g3, 2, none⟩ (.int .i64 a2)).setCell ⟨g3, 3, none⟩ (.int .i64 (t2.length : Int)) = W3 at HX3 ⊢
 have k1 := (blk_cell HX3.out.b3 1).trans rfl
 by_cases c1 : 0 < (t1.length : Int)
 ·have C1 := Aside0.mk c1
  have d1 := decide_eq_true c1
  have e1 : decide (0 < t1.length) = true := decide_eq_true (by omega)
  clear c1
  have k0 := (blk_cell HX3.out.b3 0).trans rfl
  have y0 := blk_frozen HX3.out.b3 0
  go_upto_region 5 with (fail)
  have HX4 := Aside0.mk (HX3.out.set 0 (.int .i64 (wrap64 (a1 + 1))) (cs' := #[.int .i64 (wrap64 (a1 + 1)), .int .i64 (t1.length : Int), .int .i64 a2, .int .i64 (t2.length : Int), .string a0_4, .slice A l0_5.length c]) rfl)
  clear HX3 k0 k1 y0 d1 e1
  generalize W3.setCell ⟨g3, 0, none⟩ (.int .i64 (wrap64 (a1 + 1))) = W4 at HX4 ⊢
  have c1 := C1.out
  have k3 := (blk_cell HX4.out.b3 3).trans rfl
  by_cases c2 : 0 < (t2.length : Int)
  ·have E12 : Aside0 (Ending.returned (.agg #[.int .i64 (wrap64 (a1 + 1)), .int .i64 (t1.length : Int), .int .i64 (wrap64 (a2 + 1)), .int .i64 (t2.length : Int), .string a0_4, .slice A l0_5.length c]) = .returned (.agg #[.int .i64 (upF a1 t1), .int .i64 (t1.length : Int), .int .i64 (upF a2 t2), .int .i64 (t2.length : Int), .string a0_4, .slice A l0_5.length c])) := ⟨by unfold upF; rw [if_pos c1, if_pos c2]⟩
   have d2 := decide_eq_true c2
   have e2 : decide (0 < t2.length) = true := decide_eq_true (by omega)
   clear c1 c2
   have k2 := (blk_cell HX4.out.b3 2).trans rfl
   have y2 := blk_frozen HX4.out.b3 2
   go_upto_region 7 with (fail)
   have HX5 := Aside0.mk (HX4.out.set 2 (.int .i64 (wrap64 (a2 + 1))) (cs' := #[.int .i64 (wrap64 (a1 + 1)), .int .i64 (t1.length : Int), .int .i64 (wrap64 (a2 + 1)), .int .i64 (t2.length : Int), .string a0_4, .slice A l0_5.length c]) rfl)
   clear HX4 k2 k3 y2 d2 e2
   generalize W4.setCell ⟨g3, 2, none⟩ (.int .i64 (wrap64 (a2 + 1))) = W5 at HX5 ⊢
   have k0 := (blk_cell HX5.out.b3 0).trans rfl
   have k1 := (blk_cell HX5.out.b3 1).trans rfl
   have k2 := (blk_cell HX5.out.b3 2).trans rfl
   have k3 := (blk_cell HX5.out.b3 3).trans rfl
   have k4 := (blk_cell HX5.out.b3 4).trans rfl
   have k5 := (blk_cell HX5.out.b3 5).trans rfl
   have d0 := (blk_cell HX5.out.b6 0).trans rfl
   have d1 := (blk_cell HX5.out.b6 1).trans rfl
   have d2 := (blk_cell HX5.out.b6 2).trans rfl
   have d3 := (blk_cell HX5.out.b6 3).trans rfl
   have d4 := (blk_cell HX5.out.b6 4).trans rfl
   have d5 := (blk_cell HX5.out.b6 5).trans rfl
   have y0 := blk_frozen HX5.out.b6 0
   have y1 := blk_frozen HX5.out.b6 1
   have y2 := blk_frozen HX5.out.b6 2
   have y3 := blk_frozen HX5.out.b6 3
   have y4 := blk_frozen HX5.out.b6 4
   have y5 := blk_frozen HX5.out.b6 5
   go_wp2
   refine bodyPost_ret (results_cell_row rfl _ _ g6 29 #[.int .i64 (wrap64 (a1 + 1)), .int .i64 (t1.length : Int), .int .i64 (wrap64 (a2 + 1)), .int .i64 (t2.length : Int), .string a0_4, .slice A l0_5.length c] (0, 0) _ rfl ((blk_set (blk_set (blk_set (blk_set (blk_set (blk_set HX5.out.b6 0 _) 1 _) 2 _) 3 _) 4 _) 5 _).trans rfl) Tryz.underlying29 rfl (by kernel_rfl)) rfl ?_
   exact ⟨E12.out, hg3 ▸ below_set (below_set (below_set (below_set (below_set (below_set HX5.out.below HX5.out.l6) HX5.out.l6) HX5.out.l6) HX5.out.l6) HX5.out.l6) HX5.out.l6⟩
  ·have E12 : Aside0 (Ending.returned (.agg #[.int .i64 (wrap64 (a1 + 1)), .int .i64 (t1.length : Int), .int .i64 a2, .int .i64 (t2.length : Int), .string a0_4, .slice A l0_5.length c]) = .returned (.agg #[.int .i64 (upF a1 t1), .int .i64 (t1.length : Int), .int .i64 (upF a2 t2), .int .i64 (t2.length : Int), .string a0_4, .slice A l0_5.length c])) := ⟨by unfold upF; rw [if_pos c1, if_neg c2]⟩
   have d2 := decide_eq_false c2
   have e2 : decide (0 < t2.length) = false := decide_eq_false (by omega)
   clear c1 c2
   go_upto_region 7 with (fail)
   have HX5 := HX4
   clear HX4 k3 d2 e2
   have k0 := (blk_cell HX5.out.b3 0).trans rfl
   have k1 := (blk_cell HX5.out.b3 1).trans rfl
   have k2 := (blk_cell HX5.out.b3 2).trans rfl
   have k3 := (blk_cell HX5.out.b3 3).trans rfl
   have k4 := (blk_cell HX5.out.b3 4).trans rfl
   have k5 := (blk_cell HX5.out.b3 5).trans rfl
   have d0 := (blk_cell HX5.out.b6 0).trans rfl
   have d1 := (blk_cell HX5.out.b6 1).trans rfl
   have d2 := (blk_cell HX5.out.b6 2).trans rfl
   have d3 := (blk_cell HX5.out.b6 3).trans rfl
   have d4 := (blk_cell HX5.out.b6 4).trans rfl
   have d5 := (blk_cell HX5.out.b6 5).trans rfl
   have y0 := blk_frozen HX5.out.b6 0
   have y1 := blk_frozen HX5.out.b6 1
   have y2 := blk_frozen HX5.out.b6 2
   have y3 := blk_frozen HX5.out.b6 3
   have y4 := blk_frozen HX5.out.b6 4
   have y5 := blk_frozen HX5.out.b6 5
   go_wp2
   refine bodyPost_ret (results_cell_row rfl _ _ g6 29 #[.int .i64 (wrap64 (a1 + 1)), .int .i64 (t1.length : Int), .int .i64 a2, .int .i64 (t2.length : Int), .string a0_4, .slice A l0_5.length c] (0, 0) _ rfl ((blk_set (blk_set (blk_set (blk_set (blk_set (blk_set HX5.out.b6 0 _) 1 _) 2 _) 3 _) 4 _) 5 _).trans rfl) Tryz.underlying29 rfl (by kernel_rfl)) rfl ?_
   exact ⟨E12.out, hg3 ▸ below_set (below_set (below_set (below_set (below_set (below_set HX5.out.below HX5.out.l6) HX5.out.l6) HX5.out.l6) HX5.out.l6) HX5.out.l6) HX5.out.l6⟩
 ·have C1 := Aside0.mk c1
  have d1 := decide_eq_false c1
  have e1 : decide (0 < t1.length) = false := decide_eq_false (by omega)
  clear c1
  go_upto_region 5 with (fail)
  have HX4 := HX3
  clear HX3 k1 d1 e1
  have c1 := C1.out
  have k3 := (blk_cell HX4.out.b3 3).trans rfl
  by_cases c2 : 0 < (t2.length : Int)
  ·have E12 : Aside0 (Ending.returned (.agg #[.int .i64 a1, .int .i64 (t1.length : Int), .int .i64 (wrap64 (a2 + 1)), .int .i64 (t2.length : Int), .string a0_4, .slice A l0_5.length c]) = .returned (.agg #[.int .i64 (upF a1 t1), .int .i64 (t1.length : Int), .int .i64 (upF a2 t2), .int .i64 (t2.length : Int), .string a0_4, .slice A l0_5.length c])) := ⟨by unfold upF; rw [if_neg c1, if_pos c2]⟩
   have d2 := decide_eq_true c2
   have e2 : decide (0 < t2.length) = true := decide_eq_true (by omega)
   clear c1 c2
   have k2 := (blk_cell HX4.out.b3 2).trans rfl
   have y2 := blk_frozen HX4.out.b3 2
   go_upto_region 7 with (fail)
   have HX5 := Aside0.mk (HX4.out.set 2 (.int .i64 (wrap64 (a2 + 1))) (cs' := #[.int .i64 a1, .int .i64 (t1.length : Int), .int .i64 (wrap64 (a2 + 1)), .int .i64 (t2.length : Int), .string a0_4, .slice A l0_5.length c]) rfl)
   clear HX4 k2 k3 y2 d2 e2
   generalize W3.setCell ⟨g3, 2, none⟩ (.int .i64 (wrap64 (a2 + 1))) = W5 at HX5 ⊢
   have k0 := (blk_cell HX5.out.b3 0).trans rfl
   have k1 := (blk_cell HX5.out.b3 1).trans rfl
   have k2 := (blk_cell HX5.out.b3 2).trans rfl
   have k3 := (blk_cell HX5.out.b3 3).trans rfl
   have k4 := (blk_cell HX5.out.b3 4).trans rfl
   have k5 := (blk_cell HX5.out.b3 5).trans rfl
   have d0 := (blk_cell HX5.out.b6 0).trans rfl
   have d1 := (blk_cell HX5.out.b6 1).trans rfl
   have d2 := (blk_cell HX5.out.b6 2).trans rfl
   have d3 := (blk_cell HX5.out.b6 3).trans rfl
   have d4 := (blk_cell HX5.out.b6 4).trans rfl
   have d5 := (blk_cell HX5.out.b6 5).trans rfl
   have y0 := blk_frozen HX5.out.b6 0
   have y1 := blk_frozen HX5.out.b6 1
   have y2 := blk_frozen HX5.out.b6 2
   have y3 := blk_frozen HX5.out.b6 3
   have y4 := blk_frozen HX5.out.b6 4
   have y5 := blk_frozen HX5.out.b6 5
   go_wp2
   refine bodyPost_ret (results_cell_row rfl _ _ g6 29 #[.int .i64 a1, .int .i64 (t1.length : Int), .int .i64 (wrap64 (a2 + 1)), .int .i64 (t2.length : Int), .string a0_4, .slice A l0_5.length c] (0, 0) _ rfl ((blk_set (blk_set (blk_set (blk_set (blk_set (blk_set HX5.out.b6 0 _) 1 _) 2 _) 3 _) 4 _) 5 _).trans rfl) Tryz.underlying29 rfl (by kernel_rfl)) rfl ?_
   exact ⟨E12.out, hg3 ▸ below_set (below_set (below_set (below_set (below_set (below_set HX5.out.below HX5.out.l6) HX5.out.l6) HX5.out.l6) HX5.out.l6) HX5.out.l6) HX5.out.l6⟩
  ·have E12 : Aside0 (Ending.returned (.agg #[.int .i64 a1, .int .i64 (t1.length : Int), .int .i64 a2, .int .i64 (t2.length : Int), .string a0_4, .slice A l0_5.length c]) = .returned (.agg #[.int .i64 (upF a1 t1), .int .i64 (t1.length : Int), .int .i64 (upF a2 t2), .int .i64 (t2.length : Int), .string a0_4, .slice A l0_5.length c])) := ⟨by unfold upF; rw [if_neg c1, if_neg c2]⟩
   have d2 := decide_eq_false c2
   have e2 : decide (0 < t2.length) = false := decide_eq_false (by omega)
   clear c1 c2
   go_upto_region 7 with (fail)
   have HX5 := HX4
   clear HX4 k3 d2 e2
   have k0 := (blk_cell HX5.out.b3 0).trans rfl
   have k1 := (blk_cell HX5.out.b3 1).trans rfl
   have k2 := (blk_cell HX5.out.b3 2).trans rfl
   have k3 := (blk_cell HX5.out.b3 3).trans rfl
   have k4 := (blk_cell HX5.out.b3 4).trans rfl
   have k5 := (blk_cell HX5.out.b3 5).trans rfl
   have d0 := (blk_cell HX5.out.b6 0).trans rfl
   have d1 := (blk_cell HX5.out.b6 1).trans rfl
   have d2 := (blk_cell HX5.out.b6 2).trans rfl
   have d3 := (blk_cell HX5.out.b6 3).trans rfl
   have d4 := (blk_cell HX5.out.b6 4).trans rfl
   have d5 := (blk_cell HX5.out.b6 5).trans rfl
   have y0 := blk_frozen HX5.out.b6 0
   have y1 := blk_frozen HX5.out.b6 1
   have y2 := blk_frozen HX5.out.b6 2
   have y3 := blk_frozen HX5.out.b6 3
   have y4 := blk_frozen HX5.out.b6 4
   have y5 := blk_frozen HX5.out.b6 5
   go_wp2
   refine bodyPost_ret (results_cell_row rfl _ _ g6 29 #[.int .i64 a1, .int .i64 (t1.length : Int), .int .i64 a2, .int .i64 (t2.length : Int), .string a0_4, .slice A l0_5.length c] (0, 0) _ rfl ((blk_set (blk_set (blk_set (blk_set (blk_set (blk_set HX5.out.b6 0 _) 1 _) 2 _) 3 _) 4 _) 5 _).trans rfl) Tryz.underlying29 rfl (by kernel_rfl)) rfl ?_
   exact ⟨E12.out, hg3 ▸ below_set (below_set (below_set (below_set (below_set (below_set HX5.out.below HX5.out.l6) HX5.out.l6) HX5.out.l6) HX5.out.l6) HX5.out.l6) HX5.out.l6⟩
end Go.Proofs.YtecjoofjiockkaaGreatDoor.Pp
