import Derived.Test.YtecjoofjiockkaaDoorESt
import Derived.Test.YtecjoofjiockkaaDoorPp0
namespace Go.Proofs.YtecjoofjiockkaaDoor.Pp
open Go.RowKit Go.Proofs.YtecjoofjiockkaaDoor.Ext Go.Proofs.YtecjoofjiockkaaDoorW.PrintWords Go.Proofs.YtecjoofjiockkaaDoorW.PrintLast Go.Proofs.YtecjoofjiockkaaDoorW.PrintMore
attribute [local go_sem] max2_int min2_int max_two min_two max_three min_three max_four min_four   -- for this text's walks alone
set_option linter.unusedVariables false
set_option linter.unusedSimpArgs false
mutual
def hunks_Sides.l0 : Nat → List ByteArray → List ByteArray → List (S56) → Int → Int → Option (List ByteArray × List ByteArray)
 | 0, _, _, _, _, _ => none
 | k + 1, x4, x5, x9, x10, x11 => if x11 < x10 then (if 0 ≤ x11 then (if x11 < (x9.length : Int) then (if ((rd_T56 x9 x11).f0) = 1 then (hunks_Sides.j1 k x4 x5 x9 x10 x11 true ((rd_T56 x9 x11).f0) ((rd_T56 x9 x11).f1)) else (hunks_Sides.j1 k x4 x5 x9 x10 x11 (((rd_T56 x9 x11).f0) == 2) ((rd_T56 x9 x11).f0) ((rd_T56 x9 x11).f1))) else (none)) else (none)) else (some (x4, x5))
def hunks_Sides.j1 : Nat → List ByteArray → List ByteArray → List (S56) → Int → Int → Bool → Int → ByteArray → Option (List ByteArray × List ByteArray)
 | 0, _, _, _, _, _, _, _, _ => none
 | k + 1, x4, x5, x9, x10, x11, x22, x543000, x543001 => if x22 = true then (if x4.length < 8796093022208 then ((some (x4 ++ [x543001] : List ByteArray)).bind fun y543 => (if x543000 = 1 then (if x5.length < 8796093022208 then (hunks_Sides.l0 k y543 (x5 ++ [x543001]) x9 x10 (wrap64 (x11 + 1))) else (none)) else (if x543000 = 3 then (if x5.length < 8796093022208 then (hunks_Sides.l0 k y543 (x5 ++ [x543001]) x9 x10 (wrap64 (x11 + 1))) else (none)) else (hunks_Sides.l0 k y543 x5 x9 x10 (wrap64 (x11 + 1)))))) else (none)) else (if x543000 = 1 then (if x5.length < 8796093022208 then (hunks_Sides.l0 k x4 (x5 ++ [x543001]) x9 x10 (wrap64 (x11 + 1))) else (none)) else (if x543000 = 3 then (if x5.length < 8796093022208 then (hunks_Sides.l0 k x4 (x5 ++ [x543001]) x9 x10 (wrap64 (x11 + 1))) else (none)) else (hunks_Sides.l0 k x4 x5 x9 x10 (wrap64 (x11 + 1)))))
end
def hunks_Sides.f (k : Nat) (a0_0 : Int) (a0_1 : Int) (a0_2 : Int) (a0_3 : Int) (a0_4 : ByteArray) (l0_5 : List (S56)) : Option (List ByteArray × List ByteArray) := hunks_Sides.l0 k ([] : List ByteArray) ([] : List ByteArray) l0_5 (l0_5.length : Int) 0
set_option maxHeartbeats 8000000 in
set_option maxRecDepth 100000 in
theorem hunks_Sides.calls (k : Nat) (a0_0 : Int) (a0_1 : Int) (a0_2 : Int) (a0_3 : Int) (a0_4 : ByteArray) (A0_5 : Option Addr) (c0_5 : Nat) (l0_5 : List (S56)) (r1 : List ByteArray) (r2 : List ByteArray) (w : World) (hr0_5 : Kd.C k56 w A0_5 l0_5.length l0_5) (hc0_5 : l0_5.length ≤ c0_5) (h : hunks_Sides.f k a0_0 a0_1 a0_2 a0_3 a0_4 l0_5 = some (r1, r2)) :
  Calls Tryd.prog 13 #[.agg #[.int .i64 a0_0, .int .i64 a0_1, .int .i64 a0_2, .int .i64 a0_3, .string a0_4, .slice A0_5 l0_5.length c0_5]] w fun e w' => ∃ v0_ v1_ : Value, e = .returned (.tuple #[v0_, v1_]) ∧ Kd.R Kd.string 9 w' w.heap.size (fun k_ => some k_ ≠ (v1_ : Value).ownBlock) v0_ r1 ∧ Kd.R Kd.string 9 w' w.heap.size (fun k_ => some k_ ≠ (v0_ : Value).ownBlock) v1_ r2 ∧ Below w.heap.size w w' := by
 have hu29 := Tryd.underlying41
 have hu53 := Tryd.underlying56
 have HR0_5 := Aside0.mk hr0_5
 have HC0_5 := Aside0.mk hc0_5
 clear hr0_5 hc0_5
 have HB := Aside0.mk (Below.refl w.heap.size w)
 have H := h
 clear h
 unfold hunks_Sides.f at H
 have H' := Aside0.mk H
 clear H
 go_enter Tryd.func13, Tryd.ntmps13
 go_wp2_with (first | ((with_reducible refine gate_dst (N := 1) rfl ?_); refine boxEv (N := 1) #[.int .i64 a0_0, .int .i64 a0_1, .int .i64 a0_2, .int .i64 a0_3, .string a0_4, .slice A0_5 l0_5.length c0_5] 41 ?_; intro gb540 hg w2 hbox hb; have BK540 := Aside0.mk hbox; have GW540 := gwN HB hg; have GE540 := GW540; replace HB := hbD HB hb; clear hb hbox hg; obtain ⟨hcz3_0, hcz3_1, hcz3_2, hcz3_3, hcz3_4, hcz3_5, hfz3_0, hfz3_1, hfz3_2, hfz3_3, hfz3_4, hfz3_5⟩ := bcf6 (W := w2) BK540))
 go_loopg [4, 5, 11] k (fun kq v4 v5 v11 w' => ∃ (x4_1 : List ByteArray) (x5_1 : List ByteArray) (x11_1 : Int), v11 = .int .i64 x11_1 ∧ Aside0 (hunks_Sides.l0 kq x4_1 x5_1 l0_5 (l0_5.length : Int) x11_1 = some (r1, r2)) ∧ Aside0 (kq ≤ k) ∧ Aside0 (Kd.R Kd.string 9 w' w.heap.size (fun k_ => some k_ ≠ (v5 : Value).ownBlock) v4 x4_1) ∧ Aside0 (Kd.R Kd.string 9 w' w.heap.size (fun k_ => some k_ ≠ (v4 : Value).ownBlock) v5 x5_1) ∧ Aside0 (w'.heap[gb540]? = some (.cells #[.int .i64 a0_0, .int .i64 a0_1, .int .i64 a0_2, .int .i64 a0_3, .string a0_4, (.slice A0_5 l0_5.length c0_5)] 41 (0, 0))) ∧ Aside0 (Below w.heap.size w w'))
 case atStart => exact ⟨(([] : List ByteArray)), (([] : List ByteArray)), (0), eqNow, H', ⟨Nat.le_refl _⟩, ⟨by first | exact Kd.R_nil _ _ _ _ _ | exact Kd.N_nil _ _ _ _ _ | exact Kd.V_nil _ _ _ _ _ | exact Kd.Q_nil _ _ _ _ _ | exact Kd.S_nil _ _ _ _ _⟩, ⟨by first | exact Kd.R_nil _ _ _ _ _ | exact Kd.N_nil _ _ _ _ _ | exact Kd.V_nil _ _ _ _ _ | exact Kd.Q_nil _ _ _ _ _ | exact Kd.S_nil _ _ _ _ _⟩, ⟨bkUp BK540.out⟩, ⟨belPut⟩⟩
 case round =>
  clear H'
  try clear hcz3_0 hcz3_1 hcz3_2 hcz3_3 hcz3_4 hcz3_5 hfz3_0 hfz3_1 hfz3_2 hfz3_3 hfz3_4 hfz3_5
  obtain ⟨x4_1, x5_1, x11_1, rfl, HA, HK1, HO_4, HO_5, BK540, HB⟩ := hrel
  cases gk with
  | zero => exact absurd HA.out (by simp [hunks_Sides.l0])
  | succ k1 =>
   have H := HA.out
   clear HA
   simp only [hunks_Sides.l0] at H
   replace H := itLn H
   rcases H with ⟨-, c4b0, H⟩ | ⟨-, c4b0, H⟩
   ·simp only [Option.some.injEq, Prod.mk.injEq] at H
    obtain ⟨rfl, rfl⟩ := H
    go_wp2
    go_ret2
    exact ⟨_, _, eqEnd, by (with_reducible repeat (first | apply Kd.R_alloc | apply Kd.R_drewN | apply Kd.R_drew)); exact HO_4.out, by (with_reducible repeat (first | apply Kd.R_alloc | apply Kd.R_drewN | apply Kd.R_drew)); exact HO_5.out, belPut⟩
   replace H := itLn H
   rcases H with ⟨_, _, H⟩ | ⟨-, c5b0, H⟩
   ·cases H
   replace H := itLn H
   rcases H with ⟨_, _, H⟩ | ⟨-, c6b0, H⟩
   ·cases H
   have HC7 := Aside0.mk H
   clear H
   obtain ⟨ad541, rfl, hx541_0, hx541_1, p541, q541⟩ := atU_T56 HR0_5 HB x11_1
   go_upto_region 5 with (first | ((with_reducible refine gate_dst (N := 7) rfl ?_); refine boxEv (N := 7) #[.int .i64 0, .string (⟨#[]⟩ : ByteArray)] 56 ?_; intro gb542 hg w8 hbox hb; replace HO_4 := Aside0.mk (Kd.R_below (kdUp HO_4.out) hb); replace HO_5 := Aside0.mk (Kd.R_below (kdUp HO_5.out) hb); have BK542 := Aside0.mk hbox; have GW542 := gwN HB hg; have GE542 := GW542; replace HB := hbD HB hb; have NB540_542 := nbL BK540 hg; have NB542_540 := nbR BK540 hg; replace BK540 := bkD BK540 hb; clear hb hbox hg; have hnb9 := NB542_540.out; have hnc9 := NB540_542.out; obtain ⟨hcz10_0, hcz10_1, hfz10_0, hfz10_1⟩ := bcf2 (W := w8) BK542))
   (try simp only [Act.put, List.setIfInBounds_toArray, List.set_cons_zero, List.set_cons_succ])
   go_cut [22] (fun v22 wc => ∃ (kq : Nat) (x22_6 : Bool), v22 = .bool x22_6 ∧ Aside0 (hunks_Sides.j1 kq x4_1 x5_1 l0_5 (l0_5.length : Int) x11_1 x22_6 ((rd_T56 l0_5 x11_1).f0) ((rd_T56 l0_5 x11_1).f1) = some (r1, r2)) ∧ Aside0 (kq ≤ k1) ∧ Aside0 (Kd.R Kd.string 9 wc w.heap.size (fun k_ => some k_ ≠ (u5 : Value).ownBlock) u4 x4_1) ∧ Aside0 (Kd.R Kd.string 9 wc w.heap.size (fun k_ => some k_ ≠ (u4 : Value).ownBlock) u5 x5_1) ∧ Aside0 (wc.heap[gb540]? = some (.cells #[.int .i64 a0_0, .int .i64 a0_1, .int .i64 a0_2, .int .i64 a0_3, .string a0_4, (.slice (some ad541) l0_5.length c0_5)] 41 (0, 0))) ∧ Aside0 (wc.heap[gb542]? = some (.cells #[.int .i64 ((rd_T56 l0_5 x11_1).f0), .string ((rd_T56 l0_5 x11_1).f1)] 56 (0, 0))) ∧ Aside0 (Below w.heap.size w wc))
   case first =>
    have H := HC7.out
    clear HC7
    replace H := itE H
    rcases H with ⟨-, c11b0, c11b1, H⟩ | ⟨c11, c11b0, c11b1, H⟩
    ·(first | rw [c11b0] | (simp only [i64_w, i32_w]; rw [c11b0]) | skip)
     have H' := Aside0.mk H
     clear H
     have hnb12 := NB542_540.out
     have hnc12 := NB540_542.out
     have hcz13_0 := bkc (v := .int .i64 0) BK542.out 0 rfl
     have hcz13_1 := bkc (v := .string (⟨#[]⟩ : ByteArray)) BK542.out 1 rfl
     have hfz13_0 := blk_frozen BK542.out 0
     have hfz13_1 := blk_frozen BK542.out 1
     go_wp2
     go_meet
     case rel => exact ⟨_, (true), eqNow, H', ⟨by have := HK1.out; first | omega | exact Nat.le_refl _⟩, ⟨by (with_reducible repeat (first | apply Kd.R_alloc | apply Kd.R_drewN | apply Kd.R_drew)); exact Kd.R_mono (Kd.R_far (p := ⟨gb542, 1, none⟩) (Kd.R_far (p := ⟨gb542, 0, none⟩) (Kd.R_types HO_4.out BK542.out (by decide)) (fun _ hk => hk.2) (.int .i64 ((rd_T56 l0_5 x11_1).f0))) (fun _ hk => hk.2) (.string ((rd_T56 l0_5 x11_1).f1))) (fun _ hk => hk.1)⟩, ⟨by (with_reducible repeat (first | apply Kd.R_alloc | apply Kd.R_drewN | apply Kd.R_drew)); exact Kd.R_mono (Kd.R_far (p := ⟨gb542, 1, none⟩) (Kd.R_far (p := ⟨gb542, 0, none⟩) (Kd.R_types HO_5.out BK542.out (by decide)) (fun _ hk => hk.2) (.int .i64 ((rd_T56 l0_5 x11_1).f0))) (fun _ hk => hk.2) (.string ((rd_T56 l0_5 x11_1).f1))) (fun _ hk => hk.1)⟩, ⟨bkT BK540⟩, ⟨bkT BK542⟩, ⟨belPut⟩⟩
    (first | rw [c11b0] | (simp only [i64_w, i32_w]; rw [c11b0]) | skip)
    have H' := Aside0.mk H
    clear H
    have hnb14 := NB542_540.out
    have hnc14 := NB540_542.out
    have hcz15_0 := bkc (v := .int .i64 0) BK542.out 0 rfl
    have hcz15_1 := bkc (v := .string (⟨#[]⟩ : ByteArray)) BK542.out 1 rfl
    have hfz15_0 := blk_frozen BK542.out 0
    have hfz15_1 := blk_frozen BK542.out 1
    go_wp2
    go_meet
    case rel => exact ⟨_, ((((rd_T56 l0_5 x11_1).f0) == 2)), eqNow, H', ⟨by have := HK1.out; first | omega | exact Nat.le_refl _⟩, ⟨by (with_reducible repeat (first | apply Kd.R_alloc | apply Kd.R_drewN | apply Kd.R_drew)); exact Kd.R_mono (Kd.R_far (p := ⟨gb542, 1, none⟩) (Kd.R_far (p := ⟨gb542, 0, none⟩) (Kd.R_types HO_4.out BK542.out (by decide)) (fun _ hk => hk.2) (.int .i64 ((rd_T56 l0_5 x11_1).f0))) (fun _ hk => hk.2) (.string ((rd_T56 l0_5 x11_1).f1))) (fun _ hk => hk.1)⟩, ⟨by (with_reducible repeat (first | apply Kd.R_alloc | apply Kd.R_drewN | apply Kd.R_drew)); exact Kd.R_mono (Kd.R_far (p := ⟨gb542, 1, none⟩) (Kd.R_far (p := ⟨gb542, 0, none⟩) (Kd.R_types HO_5.out BK542.out (by decide)) (fun _ hk => hk.2) (.int .i64 ((rd_T56 l0_5 x11_1).f0))) (fun _ hk => hk.2) (.string ((rd_T56 l0_5 x11_1).f1))) (fun _ hk => hk.1)⟩, ⟨bkT BK540⟩, ⟨bkT BK542⟩, ⟨belPut⟩⟩
   case rest =>
    clear HC7
    try clear c4
    try clear c4b0
    try clear c5
    try clear c5b0
    try clear c6
    try clear c6b0
    try clear hcz10_0 hcz10_1
    try clear hcz3_0 hcz3_1 hcz3_2 hcz3_3 hcz3_4 hcz3_5
    try clear hfz10_0 hfz10_1
    try clear hfz3_0 hfz3_1 hfz3_2 hfz3_3 hfz3_4 hfz3_5
    try clear hx541_0
    try clear hx541_1
    try clear p541
    try clear q541
    obtain ⟨kq, x22_6, rfl, HA, HJ6, HO_4, HO_5, BK540, BK542, HB⟩ := hcut
    cases kq with
    | zero => exact absurd HA.out (by simp [hunks_Sides.j1])
    | succ kj6 =>
     have H := HA.out
     clear HA
     simp only [hunks_Sides.j1] at H
     replace H := itBn H
     rcases H with ⟨rfl, H⟩ | ⟨rfl, H⟩
     ·replace H := itE H
      rcases H with ⟨-, c36b0, c36b1, H⟩ | ⟨c36, c36b0, c36b1, H⟩
      ·replace H := itLn H
       rcases H with ⟨_, _, H⟩ | ⟨c37, -, H⟩
       ·cases H
       have LMc37 := Aside0.mk c37
       clear c37
       obtain ⟨y552, hy552⟩ : ∃ y_ : List ByteArray, y_ = (x5_1 ++ [((rd_T56 l0_5 x11_1).f1)]) := ⟨_, rfl⟩
       replace H : (hunks_Sides.l0 kj6 x4_1 y552 l0_5 (l0_5.length : Int) (wrap64 (x11_1 + 1))) = some (r1, r2) := by first | (rw [hy552]; with_reducible exact H) | (have H2_ := (Option.bind_some _ _).symm.trans H; rw [hy552]; with_reducible exact H2_) | (have H2_ := (Option.bind_some _ _).symm.trans H; with_reducible exact H2_) | with_reducible exact H | (rw [hy552]; exact H) | exact H
       have Ny552 := Aside0.mk hy552
       clear hy552
       have H' := Aside0.mk H
       clear H
       have hnb38 := NB542_540.out
       have hnc38 := NB540_542.out
       have hcz39_0 := bkc (v := .int .i64 ((rd_T56 l0_5 x11_1).f0)) BK542.out 0 rfl
       have hcz39_1 := bkc (v := .string ((rd_T56 l0_5 x11_1).f1)) BK542.out 1 rfl
       have hfz39_0 := blk_frozen BK542.out 0
       have hfz39_1 := blk_frozen BK542.out 1
       go_wp2_with (first | ((with_reducible refine gate_builtin (b := .append) (xs := #[.tmp 36, .tmp 39]) rfl ?_); at_builtin; refine Kd.R_append Kd.string (w0 := w) w.heap.size rfl (.tmp 36) (.tmp 39) 23 9 (.string ⟨#[]⟩) 16 rfl Tryd.underlying23 info9 rfl (by decide) (by omega) u5 x5_1 ((rd_T56 l0_5 x11_1).f1) [.string ((rd_T56 l0_5 x11_1).f1)] (fun k_ => some k_ ≠ (u4 : Value).ownBlock) (fun _ => False) rfl rfl ?aP (fun _ hk => hk.elim) ?aF ?aO ?aB ?aS ?aL ?_; (case aP => exact rfl); (case aB => exact (belPut)); (case aF => exact (fun k_ hk => Kd.fresh' (Kd.R_lt (kdUp HO_4.out)) k_ hk)); (case aO => exact (kdUp HO_5.out)); (case aS => exact (below_size (belPut))); (case aL => have := LMc37.out; omega); intro v553 w40 ho hb hg hat; rw [← Ny552.out] at ho; replace HO_4 := Aside0.mk (Kd.R_after (ok := (fun _ => True)) (by (with_reducible repeat (first | apply Kd.R_alloc | apply Kd.R_drewN | apply Kd.R_drew)); exact Kd.R_mono HO_4.out (fun _ hk => ⟨trivial, hk⟩)) hg hat); replace BK540 := Aside0.mk (blk_grown (g := gb540) (o := .cells #[.int .i64 a0_0, .int .i64 a0_1, .int .i64 a0_2, .int .i64 a0_3, .string a0_4, .slice (some ad541) l0_5.length c0_5] 41 (0, 0)) (bkUp BK540.out) hg (Kd.R_ne HO_5.out BK540.out (by decide))); replace BK542 := Aside0.mk (blk_grown (g := gb542) (o := .cells #[.int .i64 ((rd_T56 l0_5 x11_1).f0), .string ((rd_T56 l0_5 x11_1).f1)] 56 (0, 0)) (bkUp BK542.out) hg (Kd.R_ne HO_5.out BK542.out (by decide))); replace HB := Aside0.mk hb; have HO554 := Aside0.mk (ho); clear HO_5; clear ho hb hg hat))
       go_roundg kj6
       case measure => have := HK1.out; have := HJ6.out; omega
       case rel => exact ⟨(x4_1), (y552), (wrap64 (x11_1 + 1)), eqNow, H', ⟨by have := HK1.out; have := HJ6.out; omega⟩, ⟨by (with_reducible repeat (first | apply Kd.R_alloc | apply Kd.R_drewN | apply Kd.R_drew)); exact Kd.R_mono HO_4.out (fun _ hk => hk.2)⟩, ⟨kdMv HO554⟩, ⟨bkUp BK540.out⟩, ⟨belPut⟩⟩
      replace H := itEn H
      rcases H with ⟨c41, c41b0, c41b1, H⟩ | ⟨-, c41b0, c41b1, H⟩
      ·have H' := Aside0.mk H
       clear H
       have hnb46 := NB542_540.out
       have hnc46 := NB540_542.out
       have hcz47_0 := bkc (v := .int .i64 ((rd_T56 l0_5 x11_1).f0)) BK542.out 0 rfl
       have hcz47_1 := bkc (v := .string ((rd_T56 l0_5 x11_1).f1)) BK542.out 1 rfl
       have hfz47_0 := blk_frozen BK542.out 0
       have hfz47_1 := blk_frozen BK542.out 1
       go_wp2
       go_roundg kj6
       case measure => have := HK1.out; have := HJ6.out; omega
       case rel => exact ⟨(x4_1), (x5_1), (wrap64 (x11_1 + 1)), eqNow, H', ⟨by have := HK1.out; have := HJ6.out; omega⟩, ⟨kdMv HO_4⟩, ⟨kdMv HO_5⟩, ⟨bkUp BK540.out⟩, ⟨belPut⟩⟩
      replace H := itLn H
      rcases H with ⟨_, _, H⟩ | ⟨c42, -, H⟩
      ·cases H
      have LMc42 := Aside0.mk c42
      clear c42
      obtain ⟨y555, hy555⟩ : ∃ y_ : List ByteArray, y_ = (x5_1 ++ [((rd_T56 l0_5 x11_1).f1)]) := ⟨_, rfl⟩
      replace H : (hunks_Sides.l0 kj6 x4_1 y555 l0_5 (l0_5.length : Int) (wrap64 (x11_1 + 1))) = some (r1, r2) := by first | (rw [hy555]; with_reducible exact H) | (have H2_ := (Option.bind_some _ _).symm.trans H; rw [hy555]; with_reducible exact H2_) | (have H2_ := (Option.bind_some _ _).symm.trans H; with_reducible exact H2_) | with_reducible exact H | (rw [hy555]; exact H) | exact H
      have Ny555 := Aside0.mk hy555
      clear hy555
      have H' := Aside0.mk H
      clear H
      have hnb43 := NB542_540.out
      have hnc43 := NB540_542.out
      have hcz44_0 := bkc (v := .int .i64 ((rd_T56 l0_5 x11_1).f0)) BK542.out 0 rfl
      have hcz44_1 := bkc (v := .string ((rd_T56 l0_5 x11_1).f1)) BK542.out 1 rfl
      have hfz44_0 := blk_frozen BK542.out 0
      have hfz44_1 := blk_frozen BK542.out 1
      go_wp2_with (first | ((with_reducible refine gate_builtin (b := .append) (xs := #[.tmp 36, .tmp 39]) rfl ?_); at_builtin; refine Kd.R_append Kd.string (w0 := w) w.heap.size rfl (.tmp 36) (.tmp 39) 23 9 (.string ⟨#[]⟩) 16 rfl Tryd.underlying23 info9 rfl (by decide) (by omega) u5 x5_1 ((rd_T56 l0_5 x11_1).f1) [.string ((rd_T56 l0_5 x11_1).f1)] (fun k_ => some k_ ≠ (u4 : Value).ownBlock) (fun _ => False) rfl rfl ?aP (fun _ hk => hk.elim) ?aF ?aO ?aB ?aS ?aL ?_; (case aP => exact rfl); (case aB => exact (belPut)); (case aF => exact (fun k_ hk => Kd.fresh' (Kd.R_lt (kdUp HO_4.out)) k_ hk)); (case aO => exact (kdUp HO_5.out)); (case aS => exact (below_size (belPut))); (case aL => have := LMc42.out; omega); intro v556 w45 ho hb hg hat; rw [← Ny555.out] at ho; replace HO_4 := Aside0.mk (Kd.R_after (ok := (fun _ => True)) (by (with_reducible repeat (first | apply Kd.R_alloc | apply Kd.R_drewN | apply Kd.R_drew)); exact Kd.R_mono HO_4.out (fun _ hk => ⟨trivial, hk⟩)) hg hat); replace BK540 := Aside0.mk (blk_grown (g := gb540) (o := .cells #[.int .i64 a0_0, .int .i64 a0_1, .int .i64 a0_2, .int .i64 a0_3, .string a0_4, .slice (some ad541) l0_5.length c0_5] 41 (0, 0)) (bkUp BK540.out) hg (Kd.R_ne HO_5.out BK540.out (by decide))); replace BK542 := Aside0.mk (blk_grown (g := gb542) (o := .cells #[.int .i64 ((rd_T56 l0_5 x11_1).f0), .string ((rd_T56 l0_5 x11_1).f1)] 56 (0, 0)) (bkUp BK542.out) hg (Kd.R_ne HO_5.out BK542.out (by decide))); replace HB := Aside0.mk hb; have HO557 := Aside0.mk (ho); clear HO_5; clear ho hb hg hat))
      go_roundg kj6
      case measure => have := HK1.out; have := HJ6.out; omega
      case rel => exact ⟨(x4_1), (y555), (wrap64 (x11_1 + 1)), eqNow, H', ⟨by have := HK1.out; have := HJ6.out; omega⟩, ⟨by (with_reducible repeat (first | apply Kd.R_alloc | apply Kd.R_drewN | apply Kd.R_drew)); exact Kd.R_mono HO_4.out (fun _ hk => hk.2)⟩, ⟨kdMv HO557⟩, ⟨bkUp BK540.out⟩, ⟨belPut⟩⟩
     replace H := itLn H
     rcases H with ⟨_, _, H⟩ | ⟨c17, -, H⟩
     ·cases H
     have LMc17 := Aside0.mk c17
     clear c17
     obtain ⟨y543, hy543⟩ : ∃ y_ : List ByteArray, y_ = (x4_1 ++ [((rd_T56 l0_5 x11_1).f1)]) := ⟨_, rfl⟩
     replace H : (if ((rd_T56 l0_5 x11_1).f0) = 1 then (if x5_1.length < 8796093022208 then (hunks_Sides.l0 kj6 y543 (x5_1 ++ [((rd_T56 l0_5 x11_1).f1)]) l0_5 (l0_5.length : Int) (wrap64 (x11_1 + 1))) else (none)) else (if ((rd_T56 l0_5 x11_1).f0) = 3 then (if x5_1.length < 8796093022208 then (hunks_Sides.l0 kj6 y543 (x5_1 ++ [((rd_T56 l0_5 x11_1).f1)]) l0_5 (l0_5.length : Int) (wrap64 (x11_1 + 1))) else (none)) else (hunks_Sides.l0 kj6 y543 x5_1 l0_5 (l0_5.length : Int) (wrap64 (x11_1 + 1))))) = some (r1, r2) := by first | (rw [hy543]; with_reducible exact H) | (have H2_ := (Option.bind_some _ _).symm.trans H; rw [hy543]; with_reducible exact H2_) | (have H2_ := (Option.bind_some _ _).symm.trans H; with_reducible exact H2_) | with_reducible exact H | (rw [hy543]; exact H) | exact H
     have Ny543 := Aside0.mk hy543
     clear hy543
     replace H := itE H
     rcases H with ⟨-, c18b0, c18b1, H⟩ | ⟨c18, c18b0, c18b1, H⟩
     ·replace H := itLn H
      rcases H with ⟨_, _, H⟩ | ⟨c19, -, H⟩
      ·cases H
      have LMc19 := Aside0.mk c19
      clear c19
      obtain ⟨y546, hy546⟩ : ∃ y_ : List ByteArray, y_ = (x5_1 ++ [((rd_T56 l0_5 x11_1).f1)]) := ⟨_, rfl⟩
      replace H : (hunks_Sides.l0 kj6 y543 y546 l0_5 (l0_5.length : Int) (wrap64 (x11_1 + 1))) = some (r1, r2) := by first | (rw [hy546]; with_reducible exact H) | (have H2_ := (Option.bind_some _ _).symm.trans H; rw [hy546]; with_reducible exact H2_) | (have H2_ := (Option.bind_some _ _).symm.trans H; with_reducible exact H2_) | with_reducible exact H | (rw [hy546]; exact H) | exact H
      have Ny546 := Aside0.mk hy546
      clear hy546
      have H' := Aside0.mk H
      clear H
      have hnb20 := NB542_540.out
      have hnc20 := NB540_542.out
      have hcz21_0 := bkc (v := .int .i64 ((rd_T56 l0_5 x11_1).f0)) BK542.out 0 rfl
      have hcz21_1 := bkc (v := .string ((rd_T56 l0_5 x11_1).f1)) BK542.out 1 rfl
      have hfz21_0 := blk_frozen BK542.out 0
      have hfz21_1 := blk_frozen BK542.out 1
      go_wp2_with (first | ((with_reducible refine gate_builtin (b := .append) (xs := #[.tmp 23, .tmp 26]) rfl ?_); at_builtin; refine Kd.R_append Kd.string (w0 := w) w.heap.size rfl (.tmp 23) (.tmp 26) 23 9 (.string ⟨#[]⟩) 16 rfl Tryd.underlying23 info9 rfl (by decide) (by omega) u4 x4_1 ((rd_T56 l0_5 x11_1).f1) [.string ((rd_T56 l0_5 x11_1).f1)] (fun k_ => some k_ ≠ (u5 : Value).ownBlock) (fun _ => False) rfl rfl ?aP (fun _ hk => hk.elim) ?aF ?aO ?aB ?aS ?aL ?_; (case aP => exact rfl); (case aB => exact (belPut)); (case aF => exact (fun k_ hk => Kd.fresh' (Kd.R_lt (kdUp HO_5.out)) k_ hk)); (case aO => exact (kdUp HO_4.out)); (case aS => exact (below_size (belPut))); (case aL => have := LMc17.out; omega); intro v544 w22 ho hb hg hat; rw [← Ny543.out] at ho; replace HO_5 := Aside0.mk (Kd.R_after (ok := (fun _ => True)) (by (with_reducible repeat (first | apply Kd.R_alloc | apply Kd.R_drewN | apply Kd.R_drew)); exact Kd.R_mono HO_5.out (fun _ hk => ⟨trivial, hk⟩)) hg hat); replace BK540 := Aside0.mk (blk_grown (g := gb540) (o := .cells #[.int .i64 a0_0, .int .i64 a0_1, .int .i64 a0_2, .int .i64 a0_3, .string a0_4, .slice (some ad541) l0_5.length c0_5] 41 (0, 0)) (bkUp BK540.out) hg (Kd.R_ne HO_4.out BK540.out (by decide))); replace BK542 := Aside0.mk (blk_grown (g := gb542) (o := .cells #[.int .i64 ((rd_T56 l0_5 x11_1).f0), .string ((rd_T56 l0_5 x11_1).f1)] 56 (0, 0)) (bkUp BK542.out) hg (Kd.R_ne HO_4.out BK542.out (by decide))); replace HB := Aside0.mk hb; have HO545 := Aside0.mk (ho); clear HO_4; clear ho hb hg hat; obtain ⟨hcz23_0, hcz23_1, hfz23_0, hfz23_1⟩ := bcf2 (W := w22) BK542) | ((with_reducible refine gate_builtin (b := .append) (xs := #[.tmp 36, .tmp 39]) rfl ?_); at_builtin; refine Kd.R_append Kd.string (w0 := w) w.heap.size rfl (.tmp 36) (.tmp 39) 23 9 (.string ⟨#[]⟩) 16 rfl Tryd.underlying23 info9 rfl (by decide) (by omega) u5 x5_1 ((rd_T56 l0_5 x11_1).f1) [.string ((rd_T56 l0_5 x11_1).f1)] (fun k_ => some k_ ≠ (v544 : Value).ownBlock) (fun _ => False) rfl rfl ?aP (fun _ hk => hk.elim) ?aF ?aO ?aB ?aS ?aL ?_; (case aP => exact rfl); (case aB => exact (belPut)); (case aF => exact (fun k_ hk => Kd.fresh' (Kd.R_lt (kdUp HO545.out)) k_ hk)); (case aO => exact (by (with_reducible repeat (first | apply Kd.R_alloc | apply Kd.R_drewN | apply Kd.R_drew)); exact Kd.R_mono HO_5.out (fun _ hk => hk.2))); (case aS => exact (below_size (belPut))); (case aL => have := LMc19.out; omega); intro v547 w24 ho hb hg hat; rw [← Ny546.out] at ho; replace BK540 := Aside0.mk (blk_grown (g := gb540) (o := .cells #[.int .i64 a0_0, .int .i64 a0_1, .int .i64 a0_2, .int .i64 a0_3, .string a0_4, .slice (some ad541) l0_5.length c0_5] 41 (0, 0)) (bkUp BK540.out) hg (Kd.R_ne HO_5.out BK540.out (by decide))); replace BK542 := Aside0.mk (blk_grown (g := gb542) (o := .cells #[.int .i64 ((rd_T56 l0_5 x11_1).f0), .string ((rd_T56 l0_5 x11_1).f1)] 56 (0, 0)) (bkUp BK542.out) hg (Kd.R_ne HO_5.out BK542.out (by decide))); replace HO545 := Aside0.mk (Kd.R_after (ok := (fun _ => True)) (by (with_reducible repeat (first | apply Kd.R_alloc | apply Kd.R_drewN | apply Kd.R_drew)); exact Kd.R_mono HO545.out (fun _ hk => ⟨trivial, hk⟩)) hg hat); replace HB := Aside0.mk hb; have HO548 := Aside0.mk (ho); clear HO_5; clear ho hb hg hat))
      go_roundg kj6
      case measure => have := HK1.out; have := HJ6.out; omega
      case rel => exact ⟨(y543), (y546), (wrap64 (x11_1 + 1)), eqNow, H', ⟨by have := HK1.out; have := HJ6.out; omega⟩, ⟨by (with_reducible repeat (first | apply Kd.R_alloc | apply Kd.R_drewN | apply Kd.R_drew)); exact Kd.R_mono HO545.out (fun _ hk => hk.2)⟩, ⟨kdMv HO548⟩, ⟨bkUp BK540.out⟩, ⟨belPut⟩⟩
     replace H := itEn H
     rcases H with ⟨c25, c25b0, c25b1, H⟩ | ⟨-, c25b0, c25b1, H⟩
     ·have H' := Aside0.mk H
      clear H
      have hnb32 := NB542_540.out
      have hnc32 := NB540_542.out
      have hcz33_0 := bkc (v := .int .i64 ((rd_T56 l0_5 x11_1).f0)) BK542.out 0 rfl
      have hcz33_1 := bkc (v := .string ((rd_T56 l0_5 x11_1).f1)) BK542.out 1 rfl
      have hfz33_0 := blk_frozen BK542.out 0
      have hfz33_1 := blk_frozen BK542.out 1
      go_wp2_with (first | ((with_reducible refine gate_builtin (b := .append) (xs := #[.tmp 23, .tmp 26]) rfl ?_); at_builtin; refine Kd.R_append Kd.string (w0 := w) w.heap.size rfl (.tmp 23) (.tmp 26) 23 9 (.string ⟨#[]⟩) 16 rfl Tryd.underlying23 info9 rfl (by decide) (by omega) u4 x4_1 ((rd_T56 l0_5 x11_1).f1) [.string ((rd_T56 l0_5 x11_1).f1)] (fun k_ => some k_ ≠ (u5 : Value).ownBlock) (fun _ => False) rfl rfl ?aP (fun _ hk => hk.elim) ?aF ?aO ?aB ?aS ?aL ?_; (case aP => exact rfl); (case aB => exact (belPut)); (case aF => exact (fun k_ hk => Kd.fresh' (Kd.R_lt (kdUp HO_5.out)) k_ hk)); (case aO => exact (kdUp HO_4.out)); (case aS => exact (below_size (belPut))); (case aL => have := LMc17.out; omega); intro v544 w34 ho hb hg hat; rw [← Ny543.out] at ho; replace HO_5 := Aside0.mk (Kd.R_after (ok := (fun _ => True)) (by (with_reducible repeat (first | apply Kd.R_alloc | apply Kd.R_drewN | apply Kd.R_drew)); exact Kd.R_mono HO_5.out (fun _ hk => ⟨trivial, hk⟩)) hg hat); replace BK540 := Aside0.mk (blk_grown (g := gb540) (o := .cells #[.int .i64 a0_0, .int .i64 a0_1, .int .i64 a0_2, .int .i64 a0_3, .string a0_4, .slice (some ad541) l0_5.length c0_5] 41 (0, 0)) (bkUp BK540.out) hg (Kd.R_ne HO_4.out BK540.out (by decide))); replace BK542 := Aside0.mk (blk_grown (g := gb542) (o := .cells #[.int .i64 ((rd_T56 l0_5 x11_1).f0), .string ((rd_T56 l0_5 x11_1).f1)] 56 (0, 0)) (bkUp BK542.out) hg (Kd.R_ne HO_4.out BK542.out (by decide))); replace HB := Aside0.mk hb; have HO545 := Aside0.mk (ho); clear HO_4; clear ho hb hg hat; obtain ⟨hcz35_0, hcz35_1, hfz35_0, hfz35_1⟩ := bcf2 (W := w34) BK542))
      go_roundg kj6
      case measure => have := HK1.out; have := HJ6.out; omega
      case rel => exact ⟨(y543), (x5_1), (wrap64 (x11_1 + 1)), eqNow, H', ⟨by have := HK1.out; have := HJ6.out; omega⟩, ⟨kdMv HO545⟩, ⟨by (with_reducible repeat (first | apply Kd.R_alloc | apply Kd.R_drewN | apply Kd.R_drew)); exact Kd.R_mono HO_5.out (fun _ hk => hk.2)⟩, ⟨bkUp BK540.out⟩, ⟨belPut⟩⟩
     replace H := itLn H
     rcases H with ⟨_, _, H⟩ | ⟨c26, -, H⟩
     ·cases H
     have LMc26 := Aside0.mk c26
     clear c26
     obtain ⟨y549, hy549⟩ : ∃ y_ : List ByteArray, y_ = (x5_1 ++ [((rd_T56 l0_5 x11_1).f1)]) := ⟨_, rfl⟩
     replace H : (hunks_Sides.l0 kj6 y543 y549 l0_5 (l0_5.length : Int) (wrap64 (x11_1 + 1))) = some (r1, r2) := by first | (rw [hy549]; with_reducible exact H) | (have H2_ := (Option.bind_some _ _).symm.trans H; rw [hy549]; with_reducible exact H2_) | (have H2_ := (Option.bind_some _ _).symm.trans H; with_reducible exact H2_) | with_reducible exact H | (rw [hy549]; exact H) | exact H
     have Ny549 := Aside0.mk hy549
     clear hy549
     have H' := Aside0.mk H
     clear H
     have hnb27 := NB542_540.out
     have hnc27 := NB540_542.out
     have hcz28_0 := bkc (v := .int .i64 ((rd_T56 l0_5 x11_1).f0)) BK542.out 0 rfl
     have hcz28_1 := bkc (v := .string ((rd_T56 l0_5 x11_1).f1)) BK542.out 1 rfl
     have hfz28_0 := blk_frozen BK542.out 0
     have hfz28_1 := blk_frozen BK542.out 1
     go_wp2_with (first | ((with_reducible refine gate_builtin (b := .append) (xs := #[.tmp 23, .tmp 26]) rfl ?_); at_builtin; refine Kd.R_append Kd.string (w0 := w) w.heap.size rfl (.tmp 23) (.tmp 26) 23 9 (.string ⟨#[]⟩) 16 rfl Tryd.underlying23 info9 rfl (by decide) (by omega) u4 x4_1 ((rd_T56 l0_5 x11_1).f1) [.string ((rd_T56 l0_5 x11_1).f1)] (fun k_ => some k_ ≠ (u5 : Value).ownBlock) (fun _ => False) rfl rfl ?aP (fun _ hk => hk.elim) ?aF ?aO ?aB ?aS ?aL ?_; (case aP => exact rfl); (case aB => exact (belPut)); (case aF => exact (fun k_ hk => Kd.fresh' (Kd.R_lt (kdUp HO_5.out)) k_ hk)); (case aO => exact (kdUp HO_4.out)); (case aS => exact (below_size (belPut))); (case aL => have := LMc17.out; omega); intro v544 w29 ho hb hg hat; rw [← Ny543.out] at ho; replace HO_5 := Aside0.mk (Kd.R_after (ok := (fun _ => True)) (by (with_reducible repeat (first | apply Kd.R_alloc | apply Kd.R_drewN | apply Kd.R_drew)); exact Kd.R_mono HO_5.out (fun _ hk => ⟨trivial, hk⟩)) hg hat); replace BK540 := Aside0.mk (blk_grown (g := gb540) (o := .cells #[.int .i64 a0_0, .int .i64 a0_1, .int .i64 a0_2, .int .i64 a0_3, .string a0_4, .slice (some ad541) l0_5.length c0_5] 41 (0, 0)) (bkUp BK540.out) hg (Kd.R_ne HO_4.out BK540.out (by decide))); replace BK542 := Aside0.mk (blk_grown (g := gb542) (o := .cells #[.int .i64 ((rd_T56 l0_5 x11_1).f0), .string ((rd_T56 l0_5 x11_1).f1)] 56 (0, 0)) (bkUp BK542.out) hg (Kd.R_ne HO_4.out BK542.out (by decide))); replace HB := Aside0.mk hb; have HO545 := Aside0.mk (ho); clear HO_4; clear ho hb hg hat; obtain ⟨hcz30_0, hcz30_1, hfz30_0, hfz30_1⟩ := bcf2 (W := w29) BK542) | ((with_reducible refine gate_builtin (b := .append) (xs := #[.tmp 36, .tmp 39]) rfl ?_); at_builtin; refine Kd.R_append Kd.string (w0 := w) w.heap.size rfl (.tmp 36) (.tmp 39) 23 9 (.string ⟨#[]⟩) 16 rfl Tryd.underlying23 info9 rfl (by decide) (by omega) u5 x5_1 ((rd_T56 l0_5 x11_1).f1) [.string ((rd_T56 l0_5 x11_1).f1)] (fun k_ => some k_ ≠ (v544 : Value).ownBlock) (fun _ => False) rfl rfl ?aP (fun _ hk => hk.elim) ?aF ?aO ?aB ?aS ?aL ?_; (case aP => exact rfl); (case aB => exact (belPut)); (case aF => exact (fun k_ hk => Kd.fresh' (Kd.R_lt (kdUp HO545.out)) k_ hk)); (case aO => exact (by (with_reducible repeat (first | apply Kd.R_alloc | apply Kd.R_drewN | apply Kd.R_drew)); exact Kd.R_mono HO_5.out (fun _ hk => hk.2))); (case aS => exact (below_size (belPut))); (case aL => have := LMc26.out; omega); intro v550 w31 ho hb hg hat; rw [← Ny549.out] at ho; replace BK540 := Aside0.mk (blk_grown (g := gb540) (o := .cells #[.int .i64 a0_0, .int .i64 a0_1, .int .i64 a0_2, .int .i64 a0_3, .string a0_4, .slice (some ad541) l0_5.length c0_5] 41 (0, 0)) (bkUp BK540.out) hg (Kd.R_ne HO_5.out BK540.out (by decide))); replace BK542 := Aside0.mk (blk_grown (g := gb542) (o := .cells #[.int .i64 ((rd_T56 l0_5 x11_1).f0), .string ((rd_T56 l0_5 x11_1).f1)] 56 (0, 0)) (bkUp BK542.out) hg (Kd.R_ne HO_5.out BK542.out (by decide))); replace HO545 := Aside0.mk (Kd.R_after (ok := (fun _ => True)) (by (with_reducible repeat (first | apply Kd.R_alloc | apply Kd.R_drewN | apply Kd.R_drew)); exact Kd.R_mono HO545.out (fun _ hk => ⟨trivial, hk⟩)) hg hat); replace HB := Aside0.mk hb; have HO551 := Aside0.mk (ho); clear HO_5; clear ho hb hg hat))
     go_roundg kj6
     case measure => have := HK1.out; have := HJ6.out; omega
     case rel => exact ⟨(y543), (y549), (wrap64 (x11_1 + 1)), eqNow, H', ⟨by have := HK1.out; have := HJ6.out; omega⟩, ⟨by (with_reducible repeat (first | apply Kd.R_alloc | apply Kd.R_drewN | apply Kd.R_drew)); exact Kd.R_mono HO545.out (fun _ hk => hk.2)⟩, ⟨kdMv HO551⟩, ⟨bkUp BK540.out⟩, ⟨belPut⟩⟩
structure CntIn (w : World) (g3 g6 : Nat) (cs : Array Value) (W : World) : Prop where
  below : Below w.heap.size w W
  b3 : W.heap[g3]? = some (.cells cs 29 (0, 0))
  b6 : W.heap[g6]? = some (.cells #[.int .i64 0, .int .i64 0, .int .i64 0, .int .i64 0, .string ⟨#[]⟩, .slice none 0 0] 41 (0, 0))
  l3 : w.heap.size ≤ g3
  l6 : w.heap.size ≤ g6
  n : g3 ≠ g6
theorem CntIn.then {w W W2 : World} {g3 g6 : Nat} {cs : Array Value} (i : CntIn w g3 g6 cs W) (k : Below W.heap.size W W2) : CntIn w g3 g6 cs W2 := ⟨below_step i.below k, blk_below i.b3 k, blk_below i.b6 k, i.l3, i.l6, i.n⟩
theorem CntIn.set {w W : World} {g3 g6 : Nat} {cs cs' : Array Value} (i : CntIn w g3 g6 cs W) (j : Nat) (y : Value) (e : cs.setIfInBounds j y = cs') : CntIn w g3 g6 cs' (W.setCell ⟨g3, j, none⟩ y) :=
  ⟨below_set i.below i.l3, e ▸ blk_set i.b3 j y, blk_far i.b6 i.n.symm y, i.l3, i.l6, i.n⟩
end Go.Proofs.YtecjoofjiockkaaDoor.Pp
