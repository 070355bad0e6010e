import Derived.Test.YtecjoofjiockkaaGreatDoorESt
import Derived.Test.YtecjoofjiockkaaGreatDoorPp0
namespace Go.Proofs.YtecjoofjiockkaaGreatDoor.Pp
open Go.RowKit Go.Proofs.YtecjoofjiockkaaGreatDoor.Ext Go.Proofs.YtecjoofjiockkaaGreatDoorW.PrintWords Go.Proofs.YtecjoofjiockkaaGreatDoorW.PrintLast Go.Proofs.YtecjoofjiockkaaGreatDoorW.PrintMore
attribute [local go_sem] max2_int min2_int max_two min_two max_three min_three max_four min_four
def selvageref10_kinded.l0 : Nat → List (S53) → Int → List (S53) → Int → Option ((List (S53)))
 | 0, _, _, _, _ => none
 | k + 1, x0, x1, x5, x6 => if x6 < (x0.length : Int) then (if 0 ≤ x6 then (if ((rd_T53 x0 x6).f0) = x1 then (if x5.length < 5864062014805 then (selvageref10_kinded.l0 k x0 x1 (x5 ++ [(⟨(rd_T53 x0 x6).f0, (rd_T53 x0 x6).f1⟩ : S53)]) (wrap64 (x6 + 1))) else (none)) else (selvageref10_kinded.l0 k x0 x1 x5 (wrap64 (x6 + 1)))) else (none)) else (some x5)
def selvageref10_kinded.f (k : Nat) (l0 : List (S53)) (a1 : Int) : Option ((List (S53))) := selvageref10_kinded.l0 k l0 a1 ([] : List (S53)) 0
set_option maxHeartbeats 8000000 in
set_option maxRecDepth 100000 in
theorem selvageref10_kinded.calls (k : Nat) (A0 : Option Addr) (c0 : Nat) (l0 : List (S53)) (a1 : Int) (r : List (S53)) (w : World) (hr0 : Kd.C k53 w A0 l0.length l0) (hc0 : l0.length ≤ c0) (h : selvageref10_kinded.f k l0 a1 = some r) :
  Calls Tryz.prog 102 #[.slice A0 l0.length c0, .int .i64 a1] w fun e w' => ∃ v0_ : Value, e = .returned (v0_) ∧ Kd.R k53 53 w' w.heap.size (fun _ => True) v0_ r ∧ Below w.heap.size w w' := by
 have hu53 := Tryz.underlying53
 have HR0 := Aside0.mk hr0
 have HC0 := Aside0.mk hc0
 clear hr0 hc0
 have HB := Aside0.mk (Below.refl w.heap.size w)
 have H := h
 clear h
 unfold selvageref10_kinded.f at H
 have H' := Aside0.mk H
 clear H
 go_enter Tryz.func102, Tryz.ntmps102
 go_wp2
 go_loopg [5, 6] k (fun kq v5 v6 w' => ∃ (x5_1 : List (S53)) (x6_1 : Int), v6 = .int .i64 x6_1 ∧ Aside0 (selvageref10_kinded.l0 kq l0 a1 x5_1 x6_1 = some r) ∧ Aside0 (kq ≤ k) ∧ Aside0 (Kd.R k53 53 w' w.heap.size (fun _ => True) v5 x5_1) ∧ Aside0 (Below w.heap.size w w'))
 case atStart => exact ⟨(([] : List (S53))), (0), eqNow, H', ⟨Nat.le_refl _⟩, ⟨by first | exact Kd.R_nil _ _ _ _ _ | exact Kd.N_nil _ _ _ _ _ | exact Kd.V_nil _ _ _ _ _ | exact Kd.Q_nil _ _ _ _ _ | exact Kd.S_nil _ _ _ _ _⟩, ⟨belNow⟩⟩
 case round =>
  clear H'
  obtain ⟨x5_1, x6_1, rfl, HA, HK1, HO_5, HB⟩ := hrel
  cases gk with
  | zero => exact absurd HA.out (by simp [selvageref10_kinded.l0])
  | succ k1 =>
   have H := HA.out
   clear HA
   simp only [selvageref10_kinded.l0] at H
   replace H := itLn H
   rcases H with ⟨-, c3b0, H⟩ | ⟨-, c3b0, H⟩
   ·obtain rfl := Option.some.inj H
    go_wp2
    go_ret
    exact ⟨_, eqEnd, by (with_reducible repeat (first | apply Kd.R_alloc | apply Kd.R_drewN | apply Kd.R_drew)); exact HO_5.out, belNow⟩
   replace H := itLn H
   rcases H with ⟨_, _, H⟩ | ⟨-, c4b0, H⟩
   ·cases H
   replace H := itEn H
   rcases H with ⟨c5, c5b0, c5b1, H⟩ | ⟨-, c5b0, c5b1, H⟩
   ·have H' := Aside0.mk H
    clear H
    obtain ⟨ad680, rfl, hx680_0, hx680_1, p680, q680⟩ := atU_T53 HR0 HB x6_1
    go_wp2
    go_roundg k1
    case measure => have := HK1.out; omega
    case rel => exact ⟨(x5_1), (wrap64 (x6_1 + 1)), eqNow, H', ⟨by have := HK1.out; omega⟩, ⟨kdMv HO_5⟩, ⟨belNow⟩⟩
   replace H := itLn H
   rcases H with ⟨_, _, H⟩ | ⟨c6, -, H⟩
   ·cases H
   have LMc6 := Aside0.mk c6
   clear c6
   obtain ⟨y682, hy682⟩ : ∃ y_ : List (S53), y_ = (x5_1 ++ [(⟨(rd_T53 l0 x6_1).f0, (rd_T53 l0 x6_1).f1⟩ : S53)]) := ⟨_, rfl⟩
   replace H : (selvageref10_kinded.l0 k1 l0 a1 y682 (wrap64 (x6_1 + 1))) = some r := by first | (rw [hy682]; with_reducible exact H) | (have H2_ := (Option.bind_some _ _).symm.trans H; rw [hy682]; with_reducible exact H2_) | (have H2_ := (Option.bind_some _ _).symm.trans H; with_reducible exact H2_) | with_reducible exact H | (rw [hy682]; exact H) | exact H
   have Ny682 := Aside0.mk hy682
   clear hy682
   have H' := Aside0.mk H
   clear H
   obtain ⟨ad680, rfl, hx680_0, hx680_1, p680, q680⟩ := atU_T53 HR0 HB x6_1
   have p681 : 0 ≤ (x6_1 : Int) := ofDec
   have q681 : x6_1 < (l0.length : Int) := ofDec
   obtain ⟨ad681, e681, hx681_0, hx681_1⟩ := at_T53 HR0.out x6_1 p681 q681
   obtain rfl : ad680 = ad681 := (by injection e681)
   replace hx681_0 := cUp HB.out hx681_0
   replace hx681_1 := cUp HB.out hx681_1
   replace p681 := eq_true p681
   replace q681 := eq_true q681
   go_wp2_with (first | ((with_reducible refine gate_builtin (b := .append) (xs := #[.tmp 20, .tmp 25]) rfl ?_); at_builtin; refine Kd.R_append k53 (w0 := w) w.heap.size rfl (.tmp 20) (.tmp 25) 27 53 (.agg #[(.int .i64 0), (.string ⟨#[]⟩)]) 24 rfl Tryz.underlying27 info53 rfl (by decide) (by omega) u5 x5_1 (⟨(rd_T53 l0 x6_1).f0, (rd_T53 l0 x6_1).f1⟩ : S53) [.int .i64 ((rd_T53 l0 x6_1).f0), .string ((rd_T53 l0 x6_1).f1)] (fun _ => True) (fun _ => False) rfl rfl ?aP (fun _ hk => hk.elim) ?aF ?aO ?aB ?aS ?aL ?_; (case aP => exact k53_mkM _ _ _ (⟨(rd_T53 l0 x6_1).f0, (rd_T53 l0 x6_1).f1⟩ : S53)); (case aB => exact belNow); (case aF => exact (fun _ _ => trivial)); (case aO => exact (kdUp HO_5.out)); (case aS => exact (below_size belNow)); (case aL => have := LMc6.out; omega); intro v683 w7 ho hb hg hat; rw [← Ny682.out] at ho; replace HB := Aside0.mk hb; have HO684 := Aside0.mk (ho); clear HO_5; clear ho hb hg hat))
   go_roundg k1
   case measure => have := HK1.out; omega
   case rel => exact ⟨(y682), (wrap64 (x6_1 + 1)), eqNow, H', ⟨by have := HK1.out; omega⟩, ⟨kdMv HO684⟩, ⟨belNow⟩⟩
mutual
def selvageref10_Sorted.l0 : Nat → List (S53) → List (S53) → List (S53) → Int → Option ((List (S53)))
 | 0, _, _, _, _ => none
 | k + 1, x0, x3, x4, x5 => if x5 < (x0.length : Int) then (if 0 ≤ x5 then (if ((rd_T53 x0 x5).f0) = 2 then (selvageref10_Sorted.j1 k x0 x3 x4 x5 true) else (selvageref10_Sorted.j1 k x0 x3 x4 x5 (((rd_T53 x0 x5).f0) == 3))) else (none)) else ((selvageref10_kinded.f k x4 2).bind fun t685 => (if x3.length + t685.length < 5864062014805 then ((some (x3 ++ t685 : List (S53))).bind fun y688 => ((selvageref10_kinded.f k x4 3).bind fun t691 => (if y688.length + t691.length < 5864062014805 then (some (y688 ++ t691)) else (none)))) else (none)))
def selvageref10_Sorted.j1 : Nat → List (S53) → List (S53) → List (S53) → Int → Bool → Option ((List (S53)))
 | 0, _, _, _, _, _ => none
 | k + 1, x0, x3, x4, x5, x25 => if x25 = true then (if 0 ≤ x5 then (if x5 < (x0.length : Int) then (if x4.length < 5864062014805 then (selvageref10_Sorted.l0 k x0 x3 (x4 ++ [(⟨(rd_T53 x0 x5).f0, (rd_T53 x0 x5).f1⟩ : S53)]) (wrap64 (x5 + 1))) else (none)) else (none)) else (none)) else ((selvageref10_kinded.f k x4 2).bind fun t703 => (if x3.length + t703.length < 5864062014805 then ((some (x3 ++ t703 : List (S53))).bind fun y706 => ((selvageref10_kinded.f k x4 3).bind fun t709 => (if y706.length + t709.length < 5864062014805 then ((some (y706 ++ t709 : List (S53))).bind fun y712 => (if 0 ≤ x5 then (if x5 < (x0.length : Int) then (if y712.length < 5864062014805 then (selvageref10_Sorted.l0 k x0 (y712 ++ [(⟨(rd_T53 x0 x5).f0, (rd_T53 x0 x5).f1⟩ : S53)]) ([] : List (S53)) (wrap64 (x5 + 1))) else (none)) else (none)) else (none))) else (none)))) else (none)))
end
def selvageref10_Sorted.f (k : Nat) (l0 : List (S53)) : Option ((List (S53))) := selvageref10_Sorted.l0 k l0 ([] : List (S53)) ([] : List (S53)) 0
set_option maxHeartbeats 8000000 in
set_option maxRecDepth 100000 in
theorem selvageref10_Sorted.calls (k : Nat) (A0 : Option Addr) (c0 : Nat) (l0 : List (S53)) (r : List (S53)) (w : World) (hr0 : Kd.C k53 w A0 l0.length l0) (hc0 : l0.length ≤ c0) (h : selvageref10_Sorted.f k l0 = some r) :
  Calls Tryz.prog 71 #[.slice A0 l0.length c0] w fun e w' => ∃ v0_ : Value, e = .returned (v0_) ∧ Kd.R k53 53 w' w.heap.size (fun _ => True) v0_ r ∧ Below w.heap.size w w' := by
 have hu53 := Tryz.underlying53
 have HR0 := Aside0.mk hr0
 have HC0 := Aside0.mk hc0
 clear hr0 hc0
 have HB := Aside0.mk (Below.refl w.heap.size w)
 have H := h
 clear h
 unfold selvageref10_Sorted.f at H
 have H' := Aside0.mk H
 clear H
 go_enter Tryz.func71, Tryz.ntmps71
 go_wp2
 go_loopg [3, 4, 5] k (fun kq v3 v4 v5 w' => ∃ (x3_1 : List (S53)) (x4_1 : List (S53)) (x5_1 : Int), v5 = .int .i64 x5_1 ∧ Aside0 (selvageref10_Sorted.l0 kq l0 x3_1 x4_1 x5_1 = some r) ∧ Aside0 (kq ≤ k) ∧ Aside0 (Kd.R k53 53 w' w.heap.size (fun k_ => some k_ ≠ (v4 : Value).ownBlock) v3 x3_1) ∧ Aside0 (Kd.R k53 53 w' w.heap.size (fun k_ => some k_ ≠ (v3 : Value).ownBlock) v4 x4_1) ∧ Aside0 (Below w.heap.size w w'))
 case atStart => exact ⟨(([] : List (S53))), (([] : List (S53))), (0), eqNow, H', ⟨Nat.le_refl _⟩, ⟨by first | exact Kd.R_nil _ _ _ _ _ | exact Kd.N_nil _ _ _ _ _ | exact Kd.V_nil _ _ _ _ _ | exact Kd.Q_nil _ _ _ _ _ | exact Kd.S_nil _ _ _ _ _⟩, ⟨by first | exact Kd.R_nil _ _ _ _ _ | exact Kd.N_nil _ _ _ _ _ | exact Kd.V_nil _ _ _ _ _ | exact Kd.Q_nil _ _ _ _ _ | exact Kd.S_nil _ _ _ _ _⟩, ⟨belNow⟩⟩
 case round =>
  clear H'
  obtain ⟨x3_1, x4_1, x5_1, rfl, HA, HK1, HO_3, HO_4, HB⟩ := hrel
  cases gk with
  | zero => exact absurd HA.out (by simp [selvageref10_Sorted.l0])
  | succ k1 =>
   have H := HA.out
   clear HA
   simp only [selvageref10_Sorted.l0] at H
   replace H := itLn H
   rcases H with ⟨-, c2b0, H⟩ | ⟨-, c2b0, H⟩
   ·replace H := bdS H
    obtain ⟨t685, A26, H⟩ := H
    replace H := itLn H
    rcases H with ⟨_, _, H⟩ | ⟨c27, -, H⟩
    ·cases H
    have LMc27 := Aside0.mk c27
    clear c27
    obtain ⟨y688, hy688⟩ : ∃ y_ : List (S53), y_ = (x3_1 ++ t685) := ⟨_, rfl⟩
    replace H : ((selvageref10_kinded.f k1 x4_1 3).bind fun t691 => (if y688.length + t691.length < 5864062014805 then (some (y688 ++ t691)) else (none))) = some r := by first | (rw [hy688]; with_reducible exact H) | (have H2_ := (Option.bind_some _ _).symm.trans H; rw [hy688]; with_reducible exact H2_) | (have H2_ := (Option.bind_some _ _).symm.trans H; with_reducible exact H2_) | with_reducible exact H | (rw [hy688]; exact H) | exact H
    have Ny688 := Aside0.mk hy688
    clear hy688
    replace H := bdS H
    obtain ⟨t691, A28, H⟩ := H
    replace H := itLn H
    rcases H with ⟨_, _, H⟩ | ⟨c29, -, H⟩
    ·cases H
    have LMc29 := Aside0.mk c29
    clear c29
    obtain ⟨y694, hy694⟩ : ∃ y_ : List (S53), y_ = (y688 ++ t691) := ⟨_, rfl⟩
    replace H : (some y694) = some r := by first | (rw [hy694]; with_reducible exact H) | (have H2_ := (Option.bind_some _ _).symm.trans H; rw [hy694]; with_reducible exact H2_) | (have H2_ := (Option.bind_some _ _).symm.trans H; with_reducible exact H2_) | with_reducible exact H | (rw [hy694]; exact H) | exact H
    have Ny694 := Aside0.mk hy694
    clear hy694
    obtain rfl := Option.some.inj H
    obtain ⟨Ao30, co30, eo30⟩ := Kd.R_slice HO_4.out
    subst eo30
    go_wp2_with (first | ((with_reducible refine gate_callee (f := 102) rfl ?_); refine goL (some 50) Tryz.func102 #[.slice Ao30 x4_1.length co30, .int .i64 2] ?_; (with_reducible refine (selvageref10_kinded.calls k1 _ _ x4_1 2 t685 _ ?side1 ?side2 A26.out).mono ?_); (case side1 => repeat (first | exact (Kd.R_reads' HO_4.out).2.2 | (with_reducible refine Kd.C_alloc ?_ _) | (with_reducible refine Kd.C_drewN ?_ _) | (with_reducible refine Kd.C_drew ?_))); (case side2 => exact (Kd.R_reads' HO_4.out).2.1); rintro e w31 ⟨v686, rfl, ho0, hb⟩; refine ⟨_, rfl, ?_⟩; have HO687 := Aside0.mk (Kd.R_lower (Kd.R_new' (Kd.R_new' ho0 (Kd.R_lt (kdUp HO_3.out))) (Kd.R_lt (kdUp HO_4.out))) (below_size belNow)); replace HO_3 := Aside0.mk (Kd.R_elder' (kdUp HO_3.out) (Kd.R_base ho0) hb); replace HO_4 := Aside0.mk (Kd.R_elder' (kdUp HO_4.out) (Kd.R_base ho0) hb); replace HB := hbD HB hb; clear hb; (try clear ho0); obtain ⟨Ao33, co33, eo33⟩ := Kd.R_slice HO687.out; subst eo33) | ((with_reducible refine gate_builtin (b := .append) (xs := #[.tmp 48, .tmp 50]) rfl ?_); at_builtin; refine Kd.R_append_rows k53 (w0 := w) w.heap.size rfl (.tmp 48) (.tmp 50) 27 53 (.agg #[(.int .i64 0), (.string ⟨#[]⟩)]) 24 rfl Tryz.underlying27 info53 rfl (by decide) (by omega) u3 x3_1 t685 _ _ _ (fun k_ => some k_ ≠ (.slice Ao30 x4_1.length co30 : Value).ownBlock ∧ some k_ ≠ (.slice Ao33 t685.length co33 : Value).ownBlock) (fun _ => False) rfl rfl ?aO ?aR (fun _ _ h => h) (fun _ h => h.elim) ?aF ?aB ?aS ?aL ?_; (case aR => repeat (first | exact (Kd.R_reads' HO687.out).2.2 | (with_reducible refine Kd.C_alloc ?_ _) | (with_reducible refine Kd.C_drewN ?_ _) | (with_reducible refine Kd.C_drew ?_))); (case aB => exact belNow); (case aF => exact (fun k_ hk => ⟨Kd.fresh' (Kd.R_lt (kdUp HO_4.out)) k_ hk, Kd.fresh' (Kd.R_lt (kdUp HO687.out)) k_ hk⟩)); (case aO => exact (kdUp HO_3.out)); (case aS => exact (below_size belNow)); (case aL => have := LMc27.out; omega); intro v689 w32 ho hb hg hat; rw [← Ny688.out] at ho; replace HO_4 := Aside0.mk (Kd.R_after (ok := (fun k_ => some k_ ≠ (.slice Ao33 t685.length co33 : Value).ownBlock)) (by (with_reducible repeat (first | apply Kd.R_alloc | apply Kd.R_drewN | apply Kd.R_drew)); exact Kd.R_mono HO_4.out (fun _ hk => ⟨hk.2, hk.1⟩)) hg hat); replace HO687 := Aside0.mk (Kd.R_after (ok := (fun k_ => some k_ ≠ (.slice Ao30 x4_1.length co30 : Value).ownBlock)) (by (with_reducible repeat (first | apply Kd.R_alloc | apply Kd.R_drewN | apply Kd.R_drew)); exact Kd.R_mono HO687.out (fun _ hk => ⟨hk.2, hk.1.2⟩)) hg hat); replace HB := Aside0.mk hb; have HO690 := Aside0.mk (ho); clear HO_3; clear ho hb hg hat) | ((with_reducible refine gate_callee (f := 102) rfl ?_); refine goL (some 54) Tryz.func102 #[.slice Ao30 x4_1.length co30, .int .i64 3] ?_; (with_reducible refine (selvageref10_kinded.calls k1 _ _ x4_1 3 t691 _ ?side1 ?side2 A28.out).mono ?_); (case side1 => repeat (first | exact (Kd.R_reads' HO_4.out).2.2 | (with_reducible refine Kd.C_alloc ?_ _) | (with_reducible refine Kd.C_drewN ?_ _) | (with_reducible refine Kd.C_drew ?_))); (case side2 => exact (Kd.R_reads' HO_4.out).2.1); rintro e w34 ⟨v692, rfl, ho0, hb⟩; refine ⟨_, rfl, ?_⟩; have HO693 := Aside0.mk (Kd.R_lower (Kd.R_new' (Kd.R_new' (Kd.R_new' ho0 (Kd.R_lt (kdUp HO_4.out))) (Kd.R_lt (kdUp HO687.out))) (Kd.R_lt (kdUp HO690.out))) (below_size belNow)); replace HO_4 := Aside0.mk (Kd.R_elder' (kdUp HO_4.out) (Kd.R_base ho0) hb); replace HO687 := Aside0.mk (Kd.R_elder' (kdUp HO687.out) (Kd.R_base ho0) hb); replace HO690 := Aside0.mk (Kd.R_elder' (kdUp HO690.out) (Kd.R_base ho0) hb); replace HB := hbD HB hb; clear hb; (try clear ho0); obtain ⟨Ao36, co36, eo36⟩ := Kd.R_slice HO693.out; subst eo36) | ((with_reducible refine gate_builtin (b := .append) (xs := #[.tmp 52, .tmp 54]) rfl ?_); at_builtin; refine Kd.R_append_rows k53 (w0 := w) w.heap.size rfl (.tmp 52) (.tmp 54) 27 53 (.agg #[(.int .i64 0), (.string ⟨#[]⟩)]) 24 rfl Tryz.underlying27 info53 rfl (by decide) (by omega) v689 y688 t691 _ _ _ (fun k_ => some k_ ≠ (.slice Ao30 x4_1.length co30 : Value).ownBlock ∧ some k_ ≠ (.slice Ao33 t685.length co33 : Value).ownBlock ∧ some k_ ≠ (.slice Ao36 t691.length co36 : Value).ownBlock) (fun _ => False) rfl rfl ?aO ?aR (fun _ _ h => h) (fun _ h => h.elim) ?aF ?aB ?aS ?aL ?_; (case aR => repeat (first | exact (Kd.R_reads' HO693.out).2.2 | (with_reducible refine Kd.C_alloc ?_ _) | (with_reducible refine Kd.C_drewN ?_ _) | (with_reducible refine Kd.C_drew ?_))); (case aB => exact belNow); (case aF => exact (fun k_ hk => ⟨Kd.fresh' (Kd.R_lt (kdUp HO_4.out)) k_ hk, Kd.fresh' (Kd.R_lt (kdUp HO687.out)) k_ hk, Kd.fresh' (Kd.R_lt (kdUp HO693.out)) k_ hk⟩)); (case aO => exact (by (with_reducible repeat (first | apply Kd.R_alloc | apply Kd.R_drewN | apply Kd.R_drew)); exact Kd.R_mono HO690.out (fun _ hk => ⟨hk.1.1, ⟨hk.1.2, hk.2⟩⟩))); (case aS => exact (below_size belNow)); (case aL => have := LMc29.out; omega); intro v695 w35 ho hb hg hat; rw [← Ny694.out] at ho; replace HO_4 := Aside0.mk (Kd.R_after (ok := (fun k_ => some k_ ≠ (.slice Ao33 t685.length co33 : Value).ownBlock ∧ some k_ ≠ (.slice Ao36 t691.length co36 : Value).ownBlock)) (by (with_reducible repeat (first | apply Kd.R_alloc | apply Kd.R_drewN | apply Kd.R_drew)); exact Kd.R_mono HO_4.out (fun _ hk => ⟨⟨hk.1.1, hk.2⟩, hk.1.2⟩)) hg hat); replace HO687 := Aside0.mk (Kd.R_after (ok := (fun k_ => some k_ ≠ (.slice Ao30 x4_1.length co30 : Value).ownBlock ∧ some k_ ≠ (.slice Ao36 t691.length co36 : Value).ownBlock)) (by (with_reducible repeat (first | apply Kd.R_alloc | apply Kd.R_drewN | apply Kd.R_drew)); exact Kd.R_mono HO687.out (fun _ hk => ⟨⟨hk.1.1, hk.2⟩, hk.1.2⟩)) hg hat); replace HO693 := Aside0.mk (Kd.R_after (ok := (fun k_ => some k_ ≠ (.slice Ao30 x4_1.length co30 : Value).ownBlock ∧ some k_ ≠ (.slice Ao33 t685.length co33 : Value).ownBlock)) (by (with_reducible repeat (first | apply Kd.R_alloc | apply Kd.R_drewN | apply Kd.R_drew)); exact Kd.R_mono HO693.out (fun _ hk => ⟨⟨hk.1.1.2, hk.1.2⟩, hk.2⟩)) hg hat); replace HB := Aside0.mk hb; have HO696 := Aside0.mk (ho); clear HO690; clear ho hb hg hat))
    go_ret
    exact ⟨_, eqEnd, by (with_reducible repeat (first | apply Kd.R_alloc | apply Kd.R_drewN | apply Kd.R_drew)); exact Kd.R_mono HO696.out (fun _ hk => trivial), belNow⟩
   have HC3 := Aside0.mk H
   clear H
   go_upto_region 5 with (fail)
   go_cut [25] (fun v25 wc => ∃ (kq : Nat) (x25_2 : Bool), v25 = .bool x25_2 ∧ Aside0 (selvageref10_Sorted.j1 kq l0 x3_1 x4_1 x5_1 x25_2 = some r) ∧ Aside0 (kq ≤ k1) ∧ Aside0 (Kd.R k53 53 wc w.heap.size (fun k_ => some k_ ≠ (u4 : Value).ownBlock) u3 x3_1) ∧ Aside0 (Kd.R k53 53 wc w.heap.size (fun k_ => some k_ ≠ (u3 : Value).ownBlock) u4 x4_1) ∧ Aside0 (Below w.heap.size w wc))
   case first =>
    have H := HC3.out
    clear HC3
    replace H := itLn H
    rcases H with ⟨_, _, H⟩ | ⟨-, c4b0, H⟩
    ·cases H
    (first | rw [c4b0] | (simp only [i64_w, i32_w]; rw [c4b0]) | skip)
    replace H := itE H
    rcases H with ⟨-, c5b0, c5b1, H⟩ | ⟨c5, c5b0, c5b1, H⟩
    ·have H' := Aside0.mk H
     clear H
     obtain ⟨ad697, rfl, hx697_0, hx697_1, p697, q697⟩ := atU_T53 HR0 HB x5_1
     go_wp2
     go_meet
     case rel => exact ⟨_, (true), eqNow, H', ⟨by have := HK1.out; first | omega | exact Nat.le_refl _⟩, ⟨kdMv HO_3⟩, ⟨kdMv HO_4⟩, ⟨belNow⟩⟩
    have H' := Aside0.mk H
    clear H
    obtain ⟨ad697, rfl, hx697_0, hx697_1, p697, q697⟩ := atU_T53 HR0 HB x5_1
    have p698 : 0 ≤ (x5_1 : Int) := ofDec
    have q698 : x5_1 < (l0.length : Int) := ofDec
    obtain ⟨ad698, e698, hx698_0, hx698_1⟩ := at_T53 HR0.out x5_1 p698 q698
    obtain rfl : ad697 = ad698 := (by injection e698)
    replace hx698_0 := cUp HB.out hx698_0
    replace hx698_1 := cUp HB.out hx698_1
    replace p698 := eq_true p698
    replace q698 := eq_true q698
    go_wp2
    go_meet
    case rel => exact ⟨_, ((((rd_T53 l0 x5_1).f0) == 3)), eqNow, H', ⟨by have := HK1.out; first | omega | exact Nat.le_refl _⟩, ⟨kdMv HO_3⟩, ⟨kdMv HO_4⟩, ⟨belNow⟩⟩
   case rest =>
    clear HC3
    try clear c2
    try clear c2b0
    obtain ⟨kq, x25_2, rfl, HA, HJ2, HO_3, HO_4, HB⟩ := hcut
    cases kq with
    | zero => exact absurd HA.out (by simp [selvageref10_Sorted.j1])
    | succ kj2 =>
     have H := HA.out
     clear HA
     simp only [selvageref10_Sorted.j1] at H
     replace H := itB H
     rcases H with ⟨rfl, H⟩ | ⟨rfl, H⟩
     ·replace H := itLn H
      rcases H with ⟨_, _, H⟩ | ⟨-, c7b0, H⟩
      ·cases H
      replace H := itLn H
      rcases H with ⟨_, _, H⟩ | ⟨-, c8b0, H⟩
      ·cases H
      replace H := itLn H
      rcases H with ⟨_, _, H⟩ | ⟨c9, -, H⟩
      ·cases H
      have LMc9 := Aside0.mk c9
      clear c9
      obtain ⟨y700, hy700⟩ : ∃ y_ : List (S53), y_ = (x4_1 ++ [(⟨(rd_T53 l0 x5_1).f0, (rd_T53 l0 x5_1).f1⟩ : S53)]) := ⟨_, rfl⟩
      replace H : (selvageref10_Sorted.l0 kj2 l0 x3_1 y700 (wrap64 (x5_1 + 1))) = some r := by first | (rw [hy700]; with_reducible exact H) | (have H2_ := (Option.bind_some _ _).symm.trans H; rw [hy700]; with_reducible exact H2_) | (have H2_ := (Option.bind_some _ _).symm.trans H; with_reducible exact H2_) | with_reducible exact H | (rw [hy700]; exact H) | exact H
      have Ny700 := Aside0.mk hy700
      clear hy700
      have H' := Aside0.mk H
      clear H
      obtain ⟨ad699, rfl, hx699_0, hx699_1, p699, q699⟩ := atU_T53 HR0 HB x5_1
      go_wp2_with (first | ((with_reducible refine gate_builtin (b := .append) (xs := #[.tmp 26, .tmp 31]) rfl ?_); at_builtin; refine Kd.R_append k53 (w0 := w) w.heap.size rfl (.tmp 26) (.tmp 31) 27 53 (.agg #[(.int .i64 0), (.string ⟨#[]⟩)]) 24 rfl Tryz.underlying27 info53 rfl (by decide) (by omega) u4 x4_1 (⟨(rd_T53 l0 x5_1).f0, (rd_T53 l0 x5_1).f1⟩ : S53) [.int .i64 ((rd_T53 l0 x5_1).f0), .string ((rd_T53 l0 x5_1).f1)] (fun k_ => some k_ ≠ (u3 : Value).ownBlock) (fun _ => False) rfl rfl ?aP (fun _ hk => hk.elim) ?aF ?aO ?aB ?aS ?aL ?_; (case aP => exact k53_mkM _ _ _ (⟨(rd_T53 l0 x5_1).f0, (rd_T53 l0 x5_1).f1⟩ : S53)); (case aB => exact belNow); (case aF => exact (fun k_ hk => Kd.fresh' (Kd.R_lt (kdUp HO_3.out)) k_ hk)); (case aO => exact (kdUp HO_4.out)); (case aS => exact (below_size belNow)); (case aL => have := LMc9.out; omega); intro v701 w10 ho hb hg hat; rw [← Ny700.out] at ho; replace HO_3 := Aside0.mk (Kd.R_after (ok := (fun _ => True)) (by (with_reducible repeat (first | apply Kd.R_alloc | apply Kd.R_drewN | apply Kd.R_drew)); exact Kd.R_mono HO_3.out (fun _ hk => ⟨trivial, hk⟩)) hg hat); replace HB := Aside0.mk hb; have HO702 := Aside0.mk (ho); clear HO_4; clear ho hb hg hat))
      go_roundg kj2
      case measure => have := HK1.out; have := HJ2.out; omega
      case rel => exact ⟨(x3_1), (y700), (wrap64 (x5_1 + 1)), eqNow, H', ⟨by have := HK1.out; have := HJ2.out; omega⟩, ⟨by (with_reducible repeat (first | apply Kd.R_alloc | apply Kd.R_drewN | apply Kd.R_drew)); exact Kd.R_mono HO_3.out (fun _ hk => hk.2)⟩, ⟨kdMv HO702⟩, ⟨belNow⟩⟩
     replace H := bdS H
     obtain ⟨t703, A11, H⟩ := H
     replace H := itLn H
     rcases H with ⟨_, _, H⟩ | ⟨c12, -, H⟩
     ·cases H
     have LMc12 := Aside0.mk c12
     clear c12
     obtain ⟨y706, hy706⟩ : ∃ y_ : List (S53), y_ = (x3_1 ++ t703) := ⟨_, rfl⟩
     replace H : ((selvageref10_kinded.f kj2 x4_1 3).bind fun t709 => (if y706.length + t709.length < 5864062014805 then ((some (y706 ++ t709 : List (S53))).bind fun y712 => (if 0 ≤ x5_1 then (if x5_1 < (l0.length : Int) then (if y712.length < 5864062014805 then (selvageref10_Sorted.l0 kj2 l0 (y712 ++ [(⟨(rd_T53 l0 x5_1).f0, (rd_T53 l0 x5_1).f1⟩ : S53)]) ([] : List (S53)) (wrap64 (x5_1 + 1))) else (none)) else (none)) else (none))) else (none))) = some r := by first | (rw [hy706]; with_reducible exact H) | (have H2_ := (Option.bind_some _ _).symm.trans H; rw [hy706]; with_reducible exact H2_) | (have H2_ := (Option.bind_some _ _).symm.trans H; with_reducible exact H2_) | with_reducible exact H | (rw [hy706]; exact H) | exact H
     have Ny706 := Aside0.mk hy706
     clear hy706
     replace H := bdS H
     obtain ⟨t709, A13, H⟩ := H
     replace H := itLn H
     rcases H with ⟨_, _, H⟩ | ⟨c14, -, H⟩
     ·cases H
     have LMc14 := Aside0.mk c14
     clear c14
     obtain ⟨y712, hy712⟩ : ∃ y_ : List (S53), y_ = (y706 ++ t709) := ⟨_, rfl⟩
     replace H : (if 0 ≤ x5_1 then (if x5_1 < (l0.length : Int) then (if y712.length < 5864062014805 then (selvageref10_Sorted.l0 kj2 l0 (y712 ++ [(⟨(rd_T53 l0 x5_1).f0, (rd_T53 l0 x5_1).f1⟩ : S53)]) ([] : List (S53)) (wrap64 (x5_1 + 1))) else (none)) else (none)) else (none)) = some r := by first | (rw [hy712]; with_reducible exact H) | (have H2_ := (Option.bind_some _ _).symm.trans H; rw [hy712]; with_reducible exact H2_) | (have H2_ := (Option.bind_some _ _).symm.trans H; with_reducible exact H2_) | with_reducible exact H | (rw [hy712]; exact H) | exact H
     have Ny712 := Aside0.mk hy712
     clear hy712
     replace H := itLn H
     rcases H with ⟨_, _, H⟩ | ⟨-, c15b0, H⟩
     ·cases H
     replace H := itLn H
     rcases H with ⟨_, _, H⟩ | ⟨-, c16b0, H⟩
     ·cases H
     replace H := itLn H
     rcases H with ⟨_, _, H⟩ | ⟨c17, -, H⟩
     ·cases H
     have LMc17 := Aside0.mk c17
     clear c17
     obtain ⟨y716, hy716⟩ : ∃ y_ : List (S53), y_ = (y712 ++ [(⟨(rd_T53 l0 x5_1).f0, (rd_T53 l0 x5_1).f1⟩ : S53)]) := ⟨_, rfl⟩
     replace H : (selvageref10_Sorted.l0 kj2 l0 y716 ([] : List (S53)) (wrap64 (x5_1 + 1))) = some r := by first | (rw [hy716]; with_reducible exact H) | (have H2_ := (Option.bind_some _ _).symm.trans H; rw [hy716]; with_reducible exact H2_) | (have H2_ := (Option.bind_some _ _).symm.trans H; with_reducible exact H2_) | with_reducible exact H | (rw [hy716]; exact H) | exact H
     have Ny716 := Aside0.mk hy716
     clear hy716
     have H' := Aside0.mk H
     clear H
     obtain ⟨Ao18, co18, eo18⟩ := Kd.R_slice HO_4.out
     subst eo18
     go_wp2_with (first | ((with_reducible refine gate_callee (f := 102) rfl ?_); refine goL (some 35) Tryz.func102 #[.slice Ao18 x4_1.length co18, .int .i64 2] ?_; (with_reducible refine (selvageref10_kinded.calls kj2 _ _ x4_1 2 t703 _ ?side1 ?side2 A11.out).mono ?_); (case side1 => repeat (first | exact (Kd.R_reads' HO_4.out).2.2 | (with_reducible refine Kd.C_alloc ?_ _) | (with_reducible refine Kd.C_drewN ?_ _) | (with_reducible refine Kd.C_drew ?_))); (case side2 => exact (Kd.R_reads' HO_4.out).2.1); rintro e w19 ⟨v704, rfl, ho0, hb⟩; refine ⟨_, rfl, ?_⟩; have HO705 := Aside0.mk (Kd.R_lower (Kd.R_new' (Kd.R_new' ho0 (Kd.R_lt (kdUp HO_3.out))) (Kd.R_lt (kdUp HO_4.out))) (below_size belNow)); replace HO_3 := Aside0.mk (Kd.R_elder' (kdUp HO_3.out) (Kd.R_base ho0) hb); replace HO_4 := Aside0.mk (Kd.R_elder' (kdUp HO_4.out) (Kd.R_base ho0) hb); replace HB := hbD HB hb; clear hb; (try clear ho0); obtain ⟨Ao21, co21, eo21⟩ := Kd.R_slice HO705.out; subst eo21) | ((with_reducible refine gate_builtin (b := .append) (xs := #[.tmp 33, .tmp 35]) rfl ?_); at_builtin; refine Kd.R_append_rows k53 (w0 := w) w.heap.size rfl (.tmp 33) (.tmp 35) 27 53 (.agg #[(.int .i64 0), (.string ⟨#[]⟩)]) 24 rfl Tryz.underlying27 info53 rfl (by decide) (by omega) u3 x3_1 t703 _ _ _ (fun k_ => some k_ ≠ (.slice Ao18 x4_1.length co18 : Value).ownBlock ∧ some k_ ≠ (.slice Ao21 t703.length co21 : Value).ownBlock) (fun _ => False) rfl rfl ?aO ?aR (fun _ _ h => h) (fun _ h => h.elim) ?aF ?aB ?aS ?aL ?_; (case aR => repeat (first | exact (Kd.R_reads' HO705.out).2.2 | (with_reducible refine Kd.C_alloc ?_ _) | (with_reducible refine Kd.C_drewN ?_ _) | (with_reducible refine Kd.C_drew ?_))); (case aB => exact belNow); (case aF => exact (fun k_ hk => ⟨Kd.fresh' (Kd.R_lt (kdUp HO_4.out)) k_ hk, Kd.fresh' (Kd.R_lt (kdUp HO705.out)) k_ hk⟩)); (case aO => exact (kdUp HO_3.out)); (case aS => exact (below_size belNow)); (case aL => have := LMc12.out; omega); intro v707 w20 ho hb hg hat; rw [← Ny706.out] at ho; replace HO_4 := Aside0.mk (Kd.R_after (ok := (fun k_ => some k_ ≠ (.slice Ao21 t703.length co21 : Value).ownBlock)) (by (with_reducible repeat (first | apply Kd.R_alloc | apply Kd.R_drewN | apply Kd.R_drew)); exact Kd.R_mono HO_4.out (fun _ hk => ⟨hk.2, hk.1⟩)) hg hat); replace HO705 := Aside0.mk (Kd.R_after (ok := (fun k_ => some k_ ≠ (.slice Ao18 x4_1.length co18 : Value).ownBlock)) (by (with_reducible repeat (first | apply Kd.R_alloc | apply Kd.R_drewN | apply Kd.R_drew)); exact Kd.R_mono HO705.out (fun _ hk => ⟨hk.2, hk.1.2⟩)) hg hat); replace HB := Aside0.mk hb; have HO708 := Aside0.mk (ho); clear HO_3; clear ho hb hg hat) | ((with_reducible refine gate_callee (f := 102) rfl ?_); refine goL (some 39) Tryz.func102 #[.slice Ao18 x4_1.length co18, .int .i64 3] ?_; (with_reducible refine (selvageref10_kinded.calls kj2 _ _ x4_1 3 t709 _ ?side1 ?side2 A13.out).mono ?_); (case side1 => repeat (first | exact (Kd.R_reads' HO_4.out).2.2 | (with_reducible refine Kd.C_alloc ?_ _) | (with_reducible refine Kd.C_drewN ?_ _) | (with_reducible refine Kd.C_drew ?_))); (case side2 => exact (Kd.R_reads' HO_4.out).2.1); rintro e w22 ⟨v710, rfl, ho0, hb⟩; refine ⟨_, rfl, ?_⟩; have HO711 := Aside0.mk (Kd.R_lower (Kd.R_new' (Kd.R_new' (Kd.R_new' ho0 (Kd.R_lt (kdUp HO_4.out))) (Kd.R_lt (kdUp HO705.out))) (Kd.R_lt (kdUp HO708.out))) (below_size belNow)); replace HO_4 := Aside0.mk (Kd.R_elder' (kdUp HO_4.out) (Kd.R_base ho0) hb); replace HO705 := Aside0.mk (Kd.R_elder' (kdUp HO705.out) (Kd.R_base ho0) hb); replace HO708 := Aside0.mk (Kd.R_elder' (kdUp HO708.out) (Kd.R_base ho0) hb); replace HB := hbD HB hb; clear hb; (try clear ho0); obtain ⟨Ao24, co24, eo24⟩ := Kd.R_slice HO711.out; subst eo24) | ((with_reducible refine gate_builtin (b := .append) (xs := #[.tmp 37, .tmp 39]) rfl ?_); at_builtin; refine Kd.R_append_rows k53 (w0 := w) w.heap.size rfl (.tmp 37) (.tmp 39) 27 53 (.agg #[(.int .i64 0), (.string ⟨#[]⟩)]) 24 rfl Tryz.underlying27 info53 rfl (by decide) (by omega) v707 y706 t709 _ _ _ (fun k_ => some k_ ≠ (.slice Ao18 x4_1.length co18 : Value).ownBlock ∧ some k_ ≠ (.slice Ao21 t703.length co21 : Value).ownBlock ∧ some k_ ≠ (.slice Ao24 t709.length co24 : Value).ownBlock) (fun _ => False) rfl rfl ?aO ?aR (fun _ _ h => h) (fun _ h => h.elim) ?aF ?aB ?aS ?aL ?_; (case aR => repeat (first | exact (Kd.R_reads' HO711.out).2.2 | (with_reducible refine Kd.C_alloc ?_ _) | (with_reducible refine Kd.C_drewN ?_ _) | (with_reducible refine Kd.C_drew ?_))); (case aB => exact belNow); (case aF => exact (fun k_ hk => ⟨Kd.fresh' (Kd.R_lt (kdUp HO_4.out)) k_ hk, Kd.fresh' (Kd.R_lt (kdUp HO705.out)) k_ hk, Kd.fresh' (Kd.R_lt (kdUp HO711.out)) k_ hk⟩)); (case aO => exact (by (with_reducible repeat (first | apply Kd.R_alloc | apply Kd.R_drewN | apply Kd.R_drew)); exact Kd.R_mono HO708.out (fun _ hk => ⟨hk.1.1, ⟨hk.1.2, hk.2⟩⟩))); (case aS => exact (below_size belNow)); (case aL => have := LMc14.out; omega); intro v713 w23 ho hb hg hat; rw [← Ny712.out] at ho; replace HO_4 := Aside0.mk (Kd.R_after (ok := (fun k_ => some k_ ≠ (.slice Ao21 t703.length co21 : Value).ownBlock ∧ some k_ ≠ (.slice Ao24 t709.length co24 : Value).ownBlock)) (by (with_reducible repeat (first | apply Kd.R_alloc | apply Kd.R_drewN | apply Kd.R_drew)); exact Kd.R_mono HO_4.out (fun _ hk => ⟨⟨hk.1.1, hk.2⟩, hk.1.2⟩)) hg hat); replace HO705 := Aside0.mk (Kd.R_after (ok := (fun k_ => some k_ ≠ (.slice Ao18 x4_1.length co18 : Value).ownBlock ∧ some k_ ≠ (.slice Ao24 t709.length co24 : Value).ownBlock)) (by (with_reducible repeat (first | apply Kd.R_alloc | apply Kd.R_drewN | apply Kd.R_drew)); exact Kd.R_mono HO705.out (fun _ hk => ⟨⟨hk.1.1, hk.2⟩, hk.1.2⟩)) hg hat); replace HO711 := Aside0.mk (Kd.R_after (ok := (fun k_ => some k_ ≠ (.slice Ao18 x4_1.length co18 : Value).ownBlock ∧ some k_ ≠ (.slice Ao21 t703.length co21 : Value).ownBlock)) (by (with_reducible repeat (first | apply Kd.R_alloc | apply Kd.R_drewN | apply Kd.R_drew)); exact Kd.R_mono HO711.out (fun _ hk => ⟨⟨hk.1.1.2, hk.1.2⟩, hk.2⟩)) hg hat); replace HB := Aside0.mk hb; have HO714 := Aside0.mk (ho); clear HO708; clear ho hb hg hat; have p715 : 0 ≤ (x5_1 : Int) := ofDec; have q715 : x5_1 < (l0.length : Int) := ofDec; obtain ⟨ad715, e715, hx715_0, hx715_1⟩ := at_T53 HR0.out x5_1 p715 q715; cases e715; replace hx715_0 := (HB.out.cell (World.block_lt_of_cell? w _ hx715_0)).trans hx715_0; replace hx715_1 := (HB.out.cell (World.block_lt_of_cell? w _ hx715_1)).trans hx715_1; replace p715 := eq_true p715; replace q715 := eq_true q715) | ((with_reducible refine gate_builtin (b := .append) (xs := #[.tmp 41, .tmp 46]) rfl ?_); at_builtin; refine Kd.R_append k53 (w0 := w) w.heap.size rfl (.tmp 41) (.tmp 46) 27 53 (.agg #[(.int .i64 0), (.string ⟨#[]⟩)]) 24 rfl Tryz.underlying27 info53 rfl (by decide) (by omega) v713 y712 (⟨(rd_T53 l0 x5_1).f0, (rd_T53 l0 x5_1).f1⟩ : S53) [.int .i64 ((rd_T53 l0 x5_1).f0), .string ((rd_T53 l0 x5_1).f1)] (fun k_ => some k_ ≠ (.slice Ao18 x4_1.length co18 : Value).ownBlock ∧ some k_ ≠ (.slice Ao21 t703.length co21 : Value).ownBlock ∧ some k_ ≠ (.slice Ao24 t709.length co24 : Value).ownBlock) (fun _ => False) rfl rfl ?aP (fun _ hk => hk.elim) ?aF ?aO ?aB ?aS ?aL ?_; (case aP => exact k53_mkM _ _ _ (⟨(rd_T53 l0 x5_1).f0, (rd_T53 l0 x5_1).f1⟩ : S53)); (case aB => exact belNow); (case aF => exact (fun k_ hk => ⟨Kd.fresh' (Kd.R_lt (kdUp HO_4.out)) k_ hk, Kd.fresh' (Kd.R_lt (kdUp HO705.out)) k_ hk, Kd.fresh' (Kd.R_lt (kdUp HO711.out)) k_ hk⟩)); (case aO => exact (kdUp HO714.out)); (case aS => exact (below_size belNow)); (case aL => have := LMc17.out; omega); intro v717 w25 ho hb hg hat; rw [← Ny716.out] at ho; replace HO_4 := Aside0.mk (Kd.R_after (ok := (fun k_ => some k_ ≠ (.slice Ao21 t703.length co21 : Value).ownBlock ∧ some k_ ≠ (.slice Ao24 t709.length co24 : Value).ownBlock)) (kdUp HO_4.out) hg hat); replace HO705 := Aside0.mk (Kd.R_after (ok := (fun k_ => some k_ ≠ (.slice Ao18 x4_1.length co18 : Value).ownBlock ∧ some k_ ≠ (.slice Ao24 t709.length co24 : Value).ownBlock)) (kdUp HO705.out) hg hat); replace HO711 := Aside0.mk (Kd.R_after (ok := (fun k_ => some k_ ≠ (.slice Ao18 x4_1.length co18 : Value).ownBlock ∧ some k_ ≠ (.slice Ao21 t703.length co21 : Value).ownBlock)) (kdUp HO711.out) hg hat); replace HB := Aside0.mk hb; have HO718 := Aside0.mk (ho); clear HO714; clear ho hb hg hat))
     go_roundg kj2
     case measure => have := HK1.out; have := HJ2.out; omega
     case rel => exact ⟨(y716), (([] : List (S53))), (wrap64 (x5_1 + 1)), eqNow, H', ⟨by have := HK1.out; have := HJ2.out; omega⟩, ⟨by (with_reducible repeat (first | apply Kd.R_alloc | apply Kd.R_drewN | apply Kd.R_drew)); exact Kd.R_mono HO718.out (fun _ hk => (by simp [Value.ownBlock]))⟩, ⟨by first | exact Kd.R_nil _ _ _ _ _ | exact Kd.N_nil _ _ _ _ _ | exact Kd.V_nil _ _ _ _ _ | exact Kd.Q_nil _ _ _ _ _ | exact Kd.S_nil _ _ _ _ _⟩, ⟨belNow⟩⟩
def selvageref10_Reverse.l0 : Nat → List (S53) → Int → Int → Int → Int → Int → ByteArray → List (S53) → Option (Int × Int × Int × Int × ByteArray × (List (S53)))
 | 0, _, _, _, _, _, _, _, _ => none
 | k + 1, x3, x4, x720000, x720001, x720002, x720003, x720004, x720005 => if x4 < (x720005.length : Int) then (if 0 ≤ x4 then (if ((rd_T53 x720005 x4).f0) = 2 then (if x3.length < 5864062014805 then (selvageref10_Reverse.l0 k (x3 ++ [(⟨3, (rd_T53 x720005 x4).f1⟩ : S53)]) (wrap64 (x4 + 1)) x720000 x720001 x720002 x720003 x720004 x720005) else (none)) else (if ((rd_T53 x720005 x4).f0) = 3 then (if x3.length < 5864062014805 then (selvageref10_Reverse.l0 k (x3 ++ [(⟨2, (rd_T53 x720005 x4).f1⟩ : S53)]) (wrap64 (x4 + 1)) x720000 x720001 x720002 x720003 x720004 x720005) else (none)) else (if x3.length < 5864062014805 then (selvageref10_Reverse.l0 k (x3 ++ [(⟨(rd_T53 x720005 x4).f0, (rd_T53 x720005 x4).f1⟩ : S53)]) (wrap64 (x4 + 1)) x720000 x720001 x720002 x720003 x720004 x720005) else (none)))) else (none)) else ((selvageref10_Sorted.f k x3).bind fun t721 => (some (x720002, x720003, x720000, x720001, x720004, t721)))
def selvageref10_Reverse.f (k : Nat) (a0_0 : Int) (a0_1 : Int) (a0_2 : Int) (a0_3 : Int) (a0_4 : ByteArray) (l0_5 : List (S53)) : Option (Int × Int × Int × Int × ByteArray × (List (S53))) := selvageref10_Reverse.l0 k ([] : List (S53)) 0 a0_0 a0_1 a0_2 a0_3 a0_4 l0_5
def selvageref10_Reverse.T12 : Bool × List (List Nat × List Nat) := (true, [([], []), ([0], [0]), ([], []), ([2], [2]), ([], []), ([4], [4]), ([], []), ([6], [6]), ([], []), ([8], [8]), ([], []), ([10], [10]), ([1, 3, 5, 7, 9, 11], [1, 3, 5, 7, 9, 11]), ([12, 11, 0, 1, 2, 3, 4, 5, 6, 7, 8, 9, 10, 11, 12], [12])])
def selvageref10_Reverse.B12 : List Nat := [0, 1, 0, 4, 0, 16, 0, 64, 0, 256, 0, 1024, 4095, 8191]
theorem selvageref10_Reverse.tab12 : rtab .any (opsOf Tryz.f34 12) = selvageref10_Reverse.T12 := by kernel_rfl
theorem selvageref10_Reverse.bits12 : waitsOk selvageref10_Reverse.T12.2 selvageref10_Reverse.B12 = true := by kernel_rfl
set_option maxHeartbeats 8000000 in
set_option maxRecDepth 100000 in
theorem selvageref10_Reverse.calls (k : Nat) (a0_0 : Int) (a0_1 : Int) (a0_2 : Int) (a0_3 : Int) (a0_4 : ByteArray) (A0_5 : Option Addr) (c0_5 : Nat) (l0_5 : List (S53)) (r1 : Int) (r2 : Int) (r3 : Int) (r4 : Int) (r5 : ByteArray) (r6 : List (S53)) (w : World) (hr0_5 : Kd.C k53 w A0_5 l0_5.length l0_5) (hc0_5 : l0_5.length ≤ c0_5) (h : selvageref10_Reverse.f k a0_0 a0_1 a0_2 a0_3 a0_4 l0_5 = some (r1, r2, r3, r4, r5, r6)) :
  Calls Tryz.prog 34 #[.agg #[.int .i64 a0_0, .int .i64 a0_1, .int .i64 a0_2, .int .i64 a0_3, .string a0_4, .slice A0_5 l0_5.length c0_5]] w fun e w' => ∃ v5_ : Value, e = .returned (.agg #[.int .i64 r1, .int .i64 r2, .int .i64 r3, .int .i64 r4, .string r5, v5_]) ∧ Kd.R k53 53 w' w.heap.size (fun _ => True) v5_ r6 ∧ Below w.heap.size w w' := by
 have hu29 := Tryz.underlying29
 have hu53 := Tryz.underlying53
 have HR0_5 := Aside0.mk hr0_5
 have HC0_5 := Aside0.mk hc0_5
 clear hr0_5 hc0_5
 have HB := Aside0.mk (Below.refl w.heap.size w)
 have H := h
 clear h
 unfold selvageref10_Reverse.f at H
 have H' := Aside0.mk H
 clear H
 go_enter Tryz.func34, Tryz.ntmps34
 go_wp2_with (first | ((with_reducible refine gate_dst (N := 1) rfl ?_); refine boxEv (N := 1) #[.int .i64 a0_0, .int .i64 a0_1, .int .i64 a0_2, .int .i64 a0_3, .string a0_4, .slice A0_5 l0_5.length c0_5] 29 ?_; intro gb719 hg w2 hbox hb; have BK719 := Aside0.mk hbox; have GW719 := gwN HB hg; have GE719 := GW719; replace HB := hbD HB hb; clear hb hbox hg) | ((with_reducible refine gate_dst (N := 2) rfl ?_); refine boxEv (N := 2) #[.int .i64 0, .int .i64 0, .int .i64 0, .int .i64 0, .string (⟨#[]⟩ : ByteArray), .slice none 0 0] 29 ?_; intro gb720 hg w3 hbox hb; have BK720 := Aside0.mk hbox; have GW720 := gwN HB hg; have GE720 := GW720; replace HB := hbD HB hb; have NB719_720 := nbL BK719 hg; have NB720_719 := nbR BK719 hg; replace BK719 := bkD BK719 hb; clear hb hbox hg))
 go_loopg [3, 4] k (fun kq v3 v4 w' => ∃ (x3_1 : List (S53)) (x4_1 : Int), v4 = .int .i64 x4_1 ∧ Aside0 (selvageref10_Reverse.l0 kq x3_1 x4_1 a0_0 a0_1 a0_2 a0_3 a0_4 l0_5 = some (r1, r2, r3, r4, r5, r6)) ∧ Aside0 (kq ≤ k) ∧ Aside0 (Kd.R k53 53 w' w.heap.size (fun _ => True) v3 x3_1) ∧ Aside0 (w'.heap[gb719]? = some (.cells #[.int .i64 a0_0, .int .i64 a0_1, .int .i64 a0_2, .int .i64 a0_3, .string a0_4, (.slice A0_5 l0_5.length c0_5)] 29 (0, 0))) ∧ Aside0 (w'.heap[gb720]? = some (.cells #[.int .i64 0, .int .i64 0, .int .i64 0, .int .i64 0, .string (⟨#[]⟩ : ByteArray), (.slice none 0 0)] 29 (0, 0))) ∧ Aside0 (Below w.heap.size w w'))
 case atStart => exact ⟨(([] : List (S53))), (0), eqNow, H', ⟨Nat.le_refl _⟩, ⟨by first | exact Kd.R_nil _ _ _ _ _ | exact Kd.N_nil _ _ _ _ _ | exact Kd.V_nil _ _ _ _ _ | exact Kd.Q_nil _ _ _ _ _ | exact Kd.S_nil _ _ _ _ _⟩, ⟨bkUp BK719.out⟩, ⟨bkUp BK720.out⟩, ⟨belPut⟩⟩
 case round =>
  clear H'
  obtain ⟨x3_1, x4_1, rfl, HA, HK1, HO_3, BK719, BK720, HB⟩ := hrel
  cases gk with
  | zero => exact absurd HA.out (by simp [selvageref10_Reverse.l0])
  | succ k1 =>
   have H := HA.out
   clear HA
   simp only [selvageref10_Reverse.l0] at H
   replace H := itLn H
   rcases H with ⟨-, c4b0, H⟩ | ⟨-, c4b0, H⟩
   ·replace H := bdS H
    obtain ⟨t721, A32, H⟩ := H
    simp only [Option.some.injEq, Prod.mk.injEq] at H
    obtain ⟨rfl, rfl, rfl, rfl, rfl, rfl⟩ := H
    have hnb33 := NB719_720.out
    have hnc33 := NB720_719.out
    have hcz34_0 := bkc (v := .int .i64 a0_0) BK719.out 0 rfl
    have hcz34_1 := bkc (v := .int .i64 a0_1) BK719.out 1 rfl
    have hcz34_2 := bkc (v := .int .i64 a0_2) BK719.out 2 rfl
    have hcz34_3 := bkc (v := .int .i64 a0_3) BK719.out 3 rfl
    have hcz34_4 := bkc (v := .string a0_4) BK719.out 4 rfl
    have hcz34_5 := bkc (v := .slice A0_5 l0_5.length c0_5) BK719.out 5 rfl
    have hfz34_0 := blk_frozen BK719.out 0
    have hfz34_1 := blk_frozen BK719.out 1
    have hfz34_2 := blk_frozen BK719.out 2
    have hfz34_3 := blk_frozen BK719.out 3
    have hfz34_4 := blk_frozen BK719.out 4
    have hfz34_5 := blk_frozen BK719.out 5
    try go_wp2
    replace HO_3 := Aside0.mk (Kd.R_drew HO_3.out)
    replace BK719 := Aside0.mk (blk_drew BK719.out)
    replace BK720 := Aside0.mk (blk_drew BK720.out)
    replace HB := Aside0.mk (below_drew1 HB.out)
    obtain ⟨Ao36, co36, eo36⟩ := Kd.R_slice HO_3.out
    (first | subst eo36 | (injection eo36 with f1_ f2_ f3_; have f4_ := f1_.symm; have f5_ := f3_.symm; clear f1_ f2_ f3_; subst f4_; subst f5_))
    refine start_ (n := 14) (S := fun w' => w'.cell? ⟨gb719, 0, none⟩ = some (.int .i64 a0_0) ∧ w'.cell? ⟨gb719, 1, none⟩ = some (.int .i64 a0_1) ∧ w'.cell? ⟨gb719, 2, none⟩ = some (.int .i64 a0_2) ∧ w'.cell? ⟨gb719, 3, none⟩ = some (.int .i64 a0_3) ∧ w'.cell? ⟨gb719, 4, none⟩ = some (.string a0_4) ∧ w'.cell? ⟨gb719, 5, none⟩ = some (.slice A0_5 l0_5.length c0_5)) (ds := []) (Array.replicate 14 false) (by kernel_rfl) rfl rfl ⟨bc BK719 0, bc BK719 1, bc BK719 2, bc BK719 3, bc BK719 4, bc BK719 5⟩ (fun hHeld => ?_); refine with_tabW selvageref10_Reverse.tab12 selvageref10_Reverse.bits12 (fun HT_ HW_ => ?_)
    generalize wr.drew = w35 at HO_3 BK719 BK720 HB hHeld ⊢
    refine pureT 0 ?_
    refine pureT 2 ?_
    refine pureT 4 ?_
    refine pureT 6 ?_
    refine pureT 8 ?_
    refine pureT 10 ?_
    refine takeT 1 hHeld ?_
    refine takeT 3 hHeld ?_
    refine takeT 5 hHeld ?_
    refine takeT 7 hHeld ?_
    refine takeT 9 hHeld ?_
    refine oneT (N := some 41) 11 (fun K hK => ?_)
    refine goes_ Tryz.func71 (by kernel_rfl) rfl #[.slice Ao36 x3_1.length co36] (by rfl) rfl rfl argsOk ?_
    with_reducible refine (selvageref10_Sorted.calls k1 _ _ x3_1 t721 _ ?side1 ?side2 A32.out).mono ?_
    (case side1 => repeat (first | exact (Kd.R_reads' HO_3.out).2.2 | (with_reducible refine Kd.C_alloc ?_ _) | (with_reducible refine Kd.C_drewN ?_ _) | (with_reducible refine Kd.C_drew ?_)))
    (case side2 => exact (Kd.R_reads' HO_3.out).2.1)
    rintro e w37 ⟨v722, rfl, ho0, hb⟩
    refine ⟨_, rfl, ?_⟩
    have HO723 := Aside0.mk (Kd.R_lower (Kd.R_new' ho0 (Kd.R_lt (kdUp HO_3.out))) (below_size (belPut)))
    replace HO_3 := Aside0.mk (Kd.R_elder' (kdUp HO_3.out) (Kd.R_base ho0) hb)
    replace BK719 := bkD BK719 hb
    replace BK720 := bkD BK720 hb
    replace HB := hbD HB hb
    (try clear hb)
    (try clear hk)
    (try clear ho0)
    obtain ⟨Ao38, co38, eo38⟩ := Kd.R_slice HO723.out
    (first | subst eo38 | (injection eo38 with f1_ f2_ f3_; have f4_ := f1_.symm; have f5_ := f3_.symm; clear f1_ f2_ f3_; subst f4_; subst f5_))
    refine hK.out _ _ ⟨bc BK719 0, bc BK719 1, bc BK719 2, bc BK719 3, bc BK719 4, bc BK719 5⟩ (fun hHeld => ?_)
    clear hK K
    refine putT ?_
    refine pureT 12 ?_
    refine oneT (N := none) 13 (fun K hK => ?_)
    have hs39 : w37.cell? ⟨gb720, 0, none⟩ = some (.int .i64 0) := bc BK720 0
    have hfs39 := blk_frozen BK720.out 0
    have hns39_0 := NB719_720.out
    have hms39_0 := NB720_719.out
    have hs40 : w37.cell? ⟨gb720, 1, none⟩ = some (.int .i64 0) := bc BK720 1
    have hfs40 := blk_frozen BK720.out 1
    have hns40_0 := NB719_720.out
    have hms40_0 := NB720_719.out
    have hs41 : w37.cell? ⟨gb720, 2, none⟩ = some (.int .i64 0) := bc BK720 2
    have hfs41 := blk_frozen BK720.out 2
    have hns41_0 := NB719_720.out
    have hms41_0 := NB720_719.out
    have hs42 : w37.cell? ⟨gb720, 3, none⟩ = some (.int .i64 0) := bc BK720 3
    have hfs42 := blk_frozen BK720.out 3
    have hns42_0 := NB719_720.out
    have hms42_0 := NB720_719.out
    have hs43 : w37.cell? ⟨gb720, 4, none⟩ = some (.string (⟨#[]⟩ : ByteArray)) := bc BK720 4
    have hfs43 := blk_frozen BK720.out 4
    have hns43_0 := NB719_720.out
    have hms43_0 := NB720_719.out
    have hs44 : w37.cell? ⟨gb720, 5, none⟩ = some (.slice none 0 0) := bc BK720 5
    have hfs44 := blk_frozen BK720.out 5
    have hns44_0 := NB719_720.out
    have hms44_0 := NB720_719.out
    refine skip_ (w1 := ?_) (by rfl) rfl ?_ ?_
    rotate_left
    ·go_simp
     rfl
    have F {w : World} {o x : Nat} {v y : Value} (h : w.cell? ⟨gb719, o, none⟩ = some y) : (w.setCell ⟨gb720, x, none⟩ v).cell? ⟨gb719, o, none⟩ = some y := (cell_far (p := ⟨gb720, _, none⟩) NB719_720.out _).trans h
    refine hK.out _ _ ⟨(F ((F ((F ((F ((F ((F (hHeld.1)))))))))))), (F ((F ((F ((F ((F ((F (hHeld.2.1)))))))))))), (F ((F ((F ((F ((F ((F (hHeld.2.2.1)))))))))))), (F ((F ((F ((F ((F ((F (hHeld.2.2.2.1)))))))))))), (F ((F ((F ((F ((F ((F (hHeld.2.2.2.2.1)))))))))))), (F ((F ((F ((F ((F ((F (hHeld.2.2.2.2.2))))))))))))⟩ (fun hHeld => ?_)
    clear hK K
    refine done_ (done_of HT_.out (by kernel_rfl)) ?_
    try go_wp2
    refine bodyPost_ret (results_cell_row rfl _ _ gb720 29 #[.int .i64 a0_2, .int .i64 a0_3, .int .i64 a0_0, .int .i64 a0_1, .string a0_4, .slice Ao38 t721.length co38] (0, 0) _ rfl (bkT BK720) Tryz.underlying29 rfl (by kernel_rfl)) rfl ?_
    exact ⟨_, eqEnd, by (with_reducible repeat (first | apply Kd.R_alloc | apply Kd.R_drewN | apply Kd.R_drew)); exact Kd.R_mono (Kd.R_far (p := ⟨gb720, 5, none⟩) (Kd.R_far (p := ⟨gb720, 4, none⟩) (Kd.R_far (p := ⟨gb720, 3, none⟩) (Kd.R_far (p := ⟨gb720, 2, none⟩) (Kd.R_far (p := ⟨gb720, 1, none⟩) (Kd.R_far (p := ⟨gb720, 0, none⟩) (Kd.R_types HO723.out BK720.out (by decide)) (fun _ hk => hk.2) (.int .i64 a0_2)) (fun _ hk => hk.2) (.int .i64 a0_3)) (fun _ hk => hk.2) (.int .i64 a0_0)) (fun _ hk => hk.2) (.int .i64 a0_1)) (fun _ hk => hk.2) (.string a0_4)) (fun _ hk => hk.2) (.slice Ao38 t721.length co38)) (fun _ hk => trivial), belPut⟩
   replace H := itLn H
   rcases H with ⟨_, _, H⟩ | ⟨-, c5b0, H⟩
   ·cases H
   replace H := itE H
   rcases H with ⟨-, c6b0, c6b1, H⟩ | ⟨c6, c6b0, c6b1, H⟩
   ·replace H := itLn H
    rcases H with ⟨_, _, H⟩ | ⟨c7, -, H⟩
    ·cases H
    have LMc7 := Aside0.mk c7
    clear c7
    obtain ⟨y726, hy726⟩ : ∃ y_ : List (S53), y_ = (x3_1 ++ [(⟨3, (rd_T53 l0_5 x4_1).f1⟩ : S53)]) := ⟨_, rfl⟩
    replace H : (selvageref10_Reverse.l0 k1 y726 (wrap64 (x4_1 + 1)) a0_0 a0_1 a0_2 a0_3 a0_4 l0_5) = some (r1, r2, r3, r4, r5, r6) := by first | (rw [hy726]; with_reducible exact H) | (have H2_ := (Option.bind_some _ _).symm.trans H; rw [hy726]; with_reducible exact H2_) | (have H2_ := (Option.bind_some _ _).symm.trans H; with_reducible exact H2_) | with_reducible exact H | (rw [hy726]; exact H) | exact H
    have Ny726 := Aside0.mk hy726
    clear hy726
    have H' := Aside0.mk H
    clear H
    have hnb8 := NB719_720.out
    have hnc8 := NB720_719.out
    have hcz9_0 := bkc (v := .int .i64 a0_0) BK719.out 0 rfl
    have hcz9_1 := bkc (v := .int .i64 a0_1) BK719.out 1 rfl
    have hcz9_2 := bkc (v := .int .i64 a0_2) BK719.out 2 rfl
    have hcz9_3 := bkc (v := .int .i64 a0_3) BK719.out 3 rfl
    have hcz9_4 := bkc (v := .string a0_4) BK719.out 4 rfl
    have hcz9_5 := bkc (v := .slice A0_5 l0_5.length c0_5) BK719.out 5 rfl
    have hfz9_0 := blk_frozen BK719.out 0
    have hfz9_1 := blk_frozen BK719.out 1
    have hfz9_2 := blk_frozen BK719.out 2
    have hfz9_3 := blk_frozen BK719.out 3
    have hfz9_4 := blk_frozen BK719.out 4
    have hfz9_5 := blk_frozen BK719.out 5
    obtain ⟨ad724, rfl, hx724_0, hx724_1, p724, q724⟩ := atU_T53 HR0_5 HB x4_1
    go_wp2_with (first | ((with_reducible refine gate_dst (N := 5) rfl ?_); refine boxEv (N := 5) #[.int .i64 0, .string (⟨#[]⟩ : ByteArray)] 53 ?_; intro gb725 hg w10 hbox hb; replace HO_3 := Aside0.mk (Kd.R_below (Kd.R_elderB (kdUp HO_3.out) gb725 (Nat.le_of_eq hg.symm)) hb); have BK725 := Aside0.mk hbox; have GW725 := gwN HB hg; have GE725 := GW725; replace HB := hbD HB hb; have NB719_725 := nbL BK719 hg; have NB725_719 := nbR BK719 hg; replace BK719 := bkD BK719 hb; have NB720_725 := nbL BK720 hg; have NB725_720 := nbR BK720 hg; replace BK720 := bkD BK720 hb; clear hb hbox hg; have hnb11 := NB725_719.out; have hnc11 := NB719_725.out; have hnb12 := NB725_720.out; have hnc12 := NB720_725.out; obtain ⟨hcz13_0, hcz13_1, hfz13_0, hfz13_1⟩ := bcf2 (W := w10) BK725) | ((with_reducible refine gate_builtin (b := .append) (xs := #[.tmp 26, .tmp 28]) rfl ?_); at_builtin; refine Kd.R_append k53 (w0 := w) w.heap.size rfl (.tmp 26) (.tmp 28) 27 53 (.agg #[(.int .i64 0), (.string ⟨#[]⟩)]) 24 rfl Tryz.underlying27 info53 rfl (by decide) (by omega) u3 x3_1 (⟨3, (rd_T53 l0_5 x4_1).f1⟩ : S53) [.int .i64 3, .string ((rd_T53 l0_5 x4_1).f1)] (fun k_ => k_ ≠ gb725) (fun _ => False) rfl (by first | (go_simp; done) | (go_simp; rfl)) ?aP (fun _ hk => hk.elim) ?aF ?aO ?aB ?aS ?aL ?_; (case aP => exact k53_mkM _ _ _ (⟨3, (rd_T53 l0_5 x4_1).f1⟩ : S53)); (case aB => exact (belPut)); (case aF => exact (fun k_ hk => Kd.freshB (g := gb725) (o := .cells #[.int .i64 3, .string ((rd_T53 l0_5 x4_1).f1)] 53 (0, 0)) (bkT BK725) k_ hk)); (case aO => exact (by (with_reducible repeat (first | apply Kd.R_alloc | apply Kd.R_drewN | apply Kd.R_drew)); exact Kd.R_mono (Kd.R_far (p := ⟨gb725, 0, none⟩) (Kd.R_far (p := ⟨gb725, 1, none⟩) (Kd.R_far (p := ⟨gb725, 0, none⟩) (Kd.R_mono HO_3.out (fun k_ hk => (⟨hk, hk.2⟩ : _ ∧ k_ ≠ gb725))) (fun _ hk => hk.2) (.int .i64 ((rd_T53 l0_5 x4_1).f0))) (fun _ hk => hk.2) (.string ((rd_T53 l0_5 x4_1).f1))) (fun _ hk => hk.2) (.int .i64 3)) (fun _ hk => hk.1.2))); (case aS => exact (below_size (belPut))); (case aL => have := LMc7.out; omega); intro v727 w14 ho hb hg hat; rw [← Ny726.out] at ho; replace BK719 := Aside0.mk (blk_grown (g := gb719) (o := .cells #[.int .i64 a0_0, .int .i64 a0_1, .int .i64 a0_2, .int .i64 a0_3, .string a0_4, .slice (some ad724) l0_5.length c0_5] 29 (0, 0)) (bkT BK719) hg (Kd.R_ne HO_3.out BK719.out (by decide))); replace BK720 := Aside0.mk (blk_grown (g := gb720) (o := .cells #[.int .i64 0, .int .i64 0, .int .i64 0, .int .i64 0, .string (⟨#[]⟩ : ByteArray), .slice none 0 0] 29 (0, 0)) (bkT BK720) hg (Kd.R_ne HO_3.out BK720.out (by decide))); replace BK725 := Aside0.mk (blk_grown (g := gb725) (o := .cells #[.int .i64 3, .string ((rd_T53 l0_5 x4_1).f1)] 53 (0, 0)) (bkT BK725) hg (Kd.R_away HO_3.out (fun _ hk => hk.2))); replace HB := Aside0.mk hb; have HO728 := Aside0.mk (ho); clear HO_3; clear ho hb hg hat))
    go_roundg k1
    case measure => have := HK1.out; omega
    case rel => exact ⟨(y726), (wrap64 (x4_1 + 1)), eqNow, H', ⟨by have := HK1.out; omega⟩, ⟨by (with_reducible repeat (first | apply Kd.R_alloc | apply Kd.R_drewN | apply Kd.R_drew)); exact Kd.R_mono HO728.out (fun _ hk => trivial)⟩, ⟨bkUp BK719.out⟩, ⟨bkUp BK720.out⟩, ⟨belPut⟩⟩
   replace H := itEn H
   rcases H with ⟨c15, c15b0, c15b1, H⟩ | ⟨-, c15b0, c15b1, H⟩
   ·replace H := itLn H
    rcases H with ⟨_, _, H⟩ | ⟨c24, -, H⟩
    ·cases H
    have LMc24 := Aside0.mk c24
    clear c24
    obtain ⟨y732, hy732⟩ : ∃ y_ : List (S53), y_ = (x3_1 ++ [(⟨(rd_T53 l0_5 x4_1).f0, (rd_T53 l0_5 x4_1).f1⟩ : S53)]) := ⟨_, rfl⟩
    replace H : (selvageref10_Reverse.l0 k1 y732 (wrap64 (x4_1 + 1)) a0_0 a0_1 a0_2 a0_3 a0_4 l0_5) = some (r1, r2, r3, r4, r5, r6) := by first | (rw [hy732]; with_reducible exact H) | (have H2_ := (Option.bind_some _ _).symm.trans H; rw [hy732]; with_reducible exact H2_) | (have H2_ := (Option.bind_some _ _).symm.trans H; with_reducible exact H2_) | with_reducible exact H | (rw [hy732]; exact H) | exact H
    have Ny732 := Aside0.mk hy732
    clear hy732
    have H' := Aside0.mk H
    clear H
    have hnb25 := NB719_720.out
    have hnc25 := NB720_719.out
    have hcz26_0 := bkc (v := .int .i64 a0_0) BK719.out 0 rfl
    have hcz26_1 := bkc (v := .int .i64 a0_1) BK719.out 1 rfl
    have hcz26_2 := bkc (v := .int .i64 a0_2) BK719.out 2 rfl
    have hcz26_3 := bkc (v := .int .i64 a0_3) BK719.out 3 rfl
    have hcz26_4 := bkc (v := .string a0_4) BK719.out 4 rfl
    have hcz26_5 := bkc (v := .slice A0_5 l0_5.length c0_5) BK719.out 5 rfl
    have hfz26_0 := blk_frozen BK719.out 0
    have hfz26_1 := blk_frozen BK719.out 1
    have hfz26_2 := blk_frozen BK719.out 2
    have hfz26_3 := blk_frozen BK719.out 3
    have hfz26_4 := blk_frozen BK719.out 4
    have hfz26_5 := blk_frozen BK719.out 5
    obtain ⟨ad724, rfl, hx724_0, hx724_1, p724, q724⟩ := atU_T53 HR0_5 HB x4_1
    go_wp2_with (first | ((with_reducible refine gate_dst (N := 5) rfl ?_); refine boxEv (N := 5) #[.int .i64 0, .string (⟨#[]⟩ : ByteArray)] 53 ?_; intro gb725 hg w27 hbox hb; replace HO_3 := Aside0.mk (Kd.R_below (Kd.R_elderB (kdUp HO_3.out) gb725 (Nat.le_of_eq hg.symm)) hb); have BK725 := Aside0.mk hbox; have GW725 := gwN HB hg; have GE725 := GW725; replace HB := hbD HB hb; have NB719_725 := nbL BK719 hg; have NB725_719 := nbR BK719 hg; replace BK719 := bkD BK719 hb; have NB720_725 := nbL BK720 hg; have NB725_720 := nbR BK720 hg; replace BK720 := bkD BK720 hb; clear hb hbox hg; have hnb28 := NB725_719.out; have hnc28 := NB719_725.out; have hnb29 := NB725_720.out; have hnc29 := NB720_725.out; obtain ⟨hcz30_0, hcz30_1, hfz30_0, hfz30_1⟩ := bcf2 (W := w27) BK725) | ((with_reducible refine gate_builtin (b := .append) (xs := #[.tmp 26, .tmp 28]) rfl ?_); at_builtin; refine Kd.R_append k53 (w0 := w) w.heap.size rfl (.tmp 26) (.tmp 28) 27 53 (.agg #[(.int .i64 0), (.string ⟨#[]⟩)]) 24 rfl Tryz.underlying27 info53 rfl (by decide) (by omega) u3 x3_1 (⟨(rd_T53 l0_5 x4_1).f0, (rd_T53 l0_5 x4_1).f1⟩ : S53) [.int .i64 ((rd_T53 l0_5 x4_1).f0), .string ((rd_T53 l0_5 x4_1).f1)] (fun k_ => k_ ≠ gb725) (fun _ => False) rfl (by first | (go_simp; done) | (go_simp; rfl)) ?aP (fun _ hk => hk.elim) ?aF ?aO ?aB ?aS ?aL ?_; (case aP => exact k53_mkM _ _ _ (⟨(rd_T53 l0_5 x4_1).f0, (rd_T53 l0_5 x4_1).f1⟩ : S53)); (case aB => exact (belPut)); (case aF => exact (fun k_ hk => Kd.freshB (g := gb725) (o := .cells #[.int .i64 ((rd_T53 l0_5 x4_1).f0), .string ((rd_T53 l0_5 x4_1).f1)] 53 (0, 0)) (bkT BK725) k_ hk)); (case aO => exact (by (with_reducible repeat (first | apply Kd.R_alloc | apply Kd.R_drewN | apply Kd.R_drew)); exact Kd.R_mono (Kd.R_far (p := ⟨gb725, 1, none⟩) (Kd.R_far (p := ⟨gb725, 0, none⟩) (Kd.R_mono HO_3.out (fun k_ hk => (⟨hk, hk.2⟩ : _ ∧ k_ ≠ gb725))) (fun _ hk => hk.2) (.int .i64 ((rd_T53 l0_5 x4_1).f0))) (fun _ hk => hk.2) (.string ((rd_T53 l0_5 x4_1).f1))) (fun _ hk => hk.1.2))); (case aS => exact (below_size (belPut))); (case aL => have := LMc24.out; omega); intro v733 w31 ho hb hg hat; rw [← Ny732.out] at ho; replace BK719 := Aside0.mk (blk_grown (g := gb719) (o := .cells #[.int .i64 a0_0, .int .i64 a0_1, .int .i64 a0_2, .int .i64 a0_3, .string a0_4, .slice (some ad724) l0_5.length c0_5] 29 (0, 0)) (bkT BK719) hg (Kd.R_ne HO_3.out BK719.out (by decide))); replace BK720 := Aside0.mk (blk_grown (g := gb720) (o := .cells #[.int .i64 0, .int .i64 0, .int .i64 0, .int .i64 0, .string (⟨#[]⟩ : ByteArray), .slice none 0 0] 29 (0, 0)) (bkT BK720) hg (Kd.R_ne HO_3.out BK720.out (by decide))); replace BK725 := Aside0.mk (blk_grown (g := gb725) (o := .cells #[.int .i64 ((rd_T53 l0_5 x4_1).f0), .string ((rd_T53 l0_5 x4_1).f1)] 53 (0, 0)) (bkT BK725) hg (Kd.R_away HO_3.out (fun _ hk => hk.2))); replace HB := Aside0.mk hb; have HO734 := Aside0.mk (ho); clear HO_3; clear ho hb hg hat))
    go_roundg k1
    case measure => have := HK1.out; omega
    case rel => exact ⟨(y732), (wrap64 (x4_1 + 1)), eqNow, H', ⟨by have := HK1.out; omega⟩, ⟨by (with_reducible repeat (first | apply Kd.R_alloc | apply Kd.R_drewN | apply Kd.R_drew)); exact Kd.R_mono HO734.out (fun _ hk => trivial)⟩, ⟨bkUp BK719.out⟩, ⟨bkUp BK720.out⟩, ⟨belPut⟩⟩
   replace H := itLn H
   rcases H with ⟨_, _, H⟩ | ⟨c16, -, H⟩
   ·cases H
   have LMc16 := Aside0.mk c16
   clear c16
   obtain ⟨y729, hy729⟩ : ∃ y_ : List (S53), y_ = (x3_1 ++ [(⟨2, (rd_T53 l0_5 x4_1).f1⟩ : S53)]) := ⟨_, rfl⟩
   replace H : (selvageref10_Reverse.l0 k1 y729 (wrap64 (x4_1 + 1)) a0_0 a0_1 a0_2 a0_3 a0_4 l0_5) = some (r1, r2, r3, r4, r5, r6) := by first | (rw [hy729]; with_reducible exact H) | (have H2_ := (Option.bind_some _ _).symm.trans H; rw [hy729]; with_reducible exact H2_) | (have H2_ := (Option.bind_some _ _).symm.trans H; with_reducible exact H2_) | with_reducible exact H | (rw [hy729]; exact H) | exact H
   have Ny729 := Aside0.mk hy729
   clear hy729
   have H' := Aside0.mk H
   clear H
   have hnb17 := NB719_720.out
   have hnc17 := NB720_719.out
   have hcz18_0 := bkc (v := .int .i64 a0_0) BK719.out 0 rfl
   have hcz18_1 := bkc (v := .int .i64 a0_1) BK719.out 1 rfl
   have hcz18_2 := bkc (v := .int .i64 a0_2) BK719.out 2 rfl
   have hcz18_3 := bkc (v := .int .i64 a0_3) BK719.out 3 rfl
   have hcz18_4 := bkc (v := .string a0_4) BK719.out 4 rfl
   have hcz18_5 := bkc (v := .slice A0_5 l0_5.length c0_5) BK719.out 5 rfl
   have hfz18_0 := blk_frozen BK719.out 0
   have hfz18_1 := blk_frozen BK719.out 1
   have hfz18_2 := blk_frozen BK719.out 2
   have hfz18_3 := blk_frozen BK719.out 3
   have hfz18_4 := blk_frozen BK719.out 4
   have hfz18_5 := blk_frozen BK719.out 5
   obtain ⟨ad724, rfl, hx724_0, hx724_1, p724, q724⟩ := atU_T53 HR0_5 HB x4_1
   go_wp2_with (first | ((with_reducible refine gate_dst (N := 5) rfl ?_); refine boxEv (N := 5) #[.int .i64 0, .string (⟨#[]⟩ : ByteArray)] 53 ?_; intro gb725 hg w19 hbox hb; replace HO_3 := Aside0.mk (Kd.R_below (Kd.R_elderB (kdUp HO_3.out) gb725 (Nat.le_of_eq hg.symm)) hb); have BK725 := Aside0.mk hbox; have GW725 := gwN HB hg; have GE725 := GW725; replace HB := hbD HB hb; have NB719_725 := nbL BK719 hg; have NB725_719 := nbR BK719 hg; replace BK719 := bkD BK719 hb; have NB720_725 := nbL BK720 hg; have NB725_720 := nbR BK720 hg; replace BK720 := bkD BK720 hb; clear hb hbox hg; have hnb20 := NB725_719.out; have hnc20 := NB719_725.out; have hnb21 := NB725_720.out; have hnc21 := NB720_725.out; obtain ⟨hcz22_0, hcz22_1, hfz22_0, hfz22_1⟩ := bcf2 (W := w19) BK725) | ((with_reducible refine gate_builtin (b := .append) (xs := #[.tmp 26, .tmp 28]) rfl ?_); at_builtin; refine Kd.R_append k53 (w0 := w) w.heap.size rfl (.tmp 26) (.tmp 28) 27 53 (.agg #[(.int .i64 0), (.string ⟨#[]⟩)]) 24 rfl Tryz.underlying27 info53 rfl (by decide) (by omega) u3 x3_1 (⟨2, (rd_T53 l0_5 x4_1).f1⟩ : S53) [.int .i64 2, .string ((rd_T53 l0_5 x4_1).f1)] (fun k_ => k_ ≠ gb725) (fun _ => False) rfl (by first | (go_simp; done) | (go_simp; rfl)) ?aP (fun _ hk => hk.elim) ?aF ?aO ?aB ?aS ?aL ?_; (case aP => exact k53_mkM _ _ _ (⟨2, (rd_T53 l0_5 x4_1).f1⟩ : S53)); (case aB => exact (belPut)); (case aF => exact (fun k_ hk => Kd.freshB (g := gb725) (o := .cells #[.int .i64 2, .string ((rd_T53 l0_5 x4_1).f1)] 53 (0, 0)) (bkT BK725) k_ hk)); (case aO => exact (by (with_reducible repeat (first | apply Kd.R_alloc | apply Kd.R_drewN | apply Kd.R_drew)); exact Kd.R_mono (Kd.R_far (p := ⟨gb725, 0, none⟩) (Kd.R_far (p := ⟨gb725, 1, none⟩) (Kd.R_far (p := ⟨gb725, 0, none⟩) (Kd.R_mono HO_3.out (fun k_ hk => (⟨hk, hk.2⟩ : _ ∧ k_ ≠ gb725))) (fun _ hk => hk.2) (.int .i64 ((rd_T53 l0_5 x4_1).f0))) (fun _ hk => hk.2) (.string ((rd_T53 l0_5 x4_1).f1))) (fun _ hk => hk.2) (.int .i64 2)) (fun _ hk => hk.1.2))); (case aS => exact (below_size (belPut))); (case aL => have := LMc16.out; omega); intro v730 w23 ho hb hg hat; rw [← Ny729.out] at ho; replace BK719 := Aside0.mk (blk_grown (g := gb719) (o := .cells #[.int .i64 a0_0, .int .i64 a0_1, .int .i64 a0_2, .int .i64 a0_3, .string a0_4, .slice (some ad724) l0_5.length c0_5] 29 (0, 0)) (bkT BK719) hg (Kd.R_ne HO_3.out BK719.out (by decide))); replace BK720 := Aside0.mk (blk_grown (g := gb720) (o := .cells #[.int .i64 0, .int .i64 0, .int .i64 0, .int .i64 0, .string (⟨#[]⟩ : ByteArray), .slice none 0 0] 29 (0, 0)) (bkT BK720) hg (Kd.R_ne HO_3.out BK720.out (by decide))); replace BK725 := Aside0.mk (blk_grown (g := gb725) (o := .cells #[.int .i64 2, .string ((rd_T53 l0_5 x4_1).f1)] 53 (0, 0)) (bkT BK725) hg (Kd.R_away HO_3.out (fun _ hk => hk.2))); replace HB := Aside0.mk hb; have HO731 := Aside0.mk (ho); clear HO_3; clear ho hb hg hat))
   go_roundg k1
   case measure => have := HK1.out; omega
   case rel => exact ⟨(y729), (wrap64 (x4_1 + 1)), eqNow, H', ⟨by have := HK1.out; omega⟩, ⟨by (with_reducible repeat (first | apply Kd.R_alloc | apply Kd.R_drewN | apply Kd.R_drew)); exact Kd.R_mono HO731.out (fun _ hk => trivial)⟩, ⟨bkUp BK719.out⟩, ⟨bkUp BK720.out⟩, ⟨belPut⟩⟩
end Go.Proofs.YtecjoofjiockkaaGreatDoor.Pp
