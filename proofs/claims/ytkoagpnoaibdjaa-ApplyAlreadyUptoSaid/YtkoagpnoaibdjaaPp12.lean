import Derived.Test.YtkoagpnoaibdjaaESt
import Derived.Test.YtkoagpnoaibdjaaPp0
namespace Go.Proofs.Ytkoagpnoaibdjaa.Pp
open Go.RowKit Go.Proofs.Ytkoagpnoaibdjaa.Ext Go.Proofs.YtkoagpnoaibdjaaW.PrintWords Go.Proofs.YtkoagpnoaibdjaaW.PrintLast Go.Proofs.YtkoagpnoaibdjaaW.PrintMore
attribute [local go_sem] max2_int min2_int max_two min_two max_three min_three max_four min_four   -- for this text's walks alone
set_option linter.unusedVariables false
set_option linter.unusedSimpArgs false
def selvagelaw17_plain.l0 : Nat → List (S45) → Int → Int → Option (Bool)
 | 0, _, _, _ => none
 | k + 1, x0, x1, x5 => if x5 < x1 then (if 0 ≤ x5 then (if x5 < (x0.length : Int) then (if ((rd_T45 x0 x5).f0) = x5 then (if ((rd_T45 x0 x5).f2) = 0 then (if ((rd_T45 x0 x5).f3) = 0 then (selvagelaw17_plain.l0 k x0 x1 (wrap64 (x5 + 1))) else (none)) else (none)) else (none)) else (none)) else (none)) else (some true)
def selvagelaw17_plain.f (k : Nat) (l0 : List (S45)) (a1 : Int) : Option (Bool) := if (l0.length : Int) = a1 then (selvagelaw17_plain.l0 k l0 a1 0) else (none)
def selvageref10_kinded.l0 : Nat → List (S72) → Int → List (S72) → Int → Option ((List (S72)))
 | 0, _, _, _, _ => none
 | k + 1, x0, x1, x5, x6 => if x6 < (x0.length : Int) then (if 0 ≤ x6 then (if ((rd_T72 x0 x6).f0) = x1 then (if x5.length < 5864062014805 then (selvageref10_kinded.l0 k x0 x1 (x5 ++ [(⟨(rd_T72 x0 x6).f0, (rd_T72 x0 x6).f1⟩ : S72)]) (wrap64 (x6 + 1))) else (none)) else (selvageref10_kinded.l0 k x0 x1 x5 (wrap64 (x6 + 1)))) else (none)) else (some x5)
def selvageref10_kinded.f (k : Nat) (l0 : List (S72)) (a1 : Int) : Option ((List (S72))) := selvageref10_kinded.l0 k l0 a1 ([] : List (S72)) 0
set_option maxHeartbeats 8000000 in
set_option maxRecDepth 100000 in
theorem selvageref10_kinded.calls (k : Nat) (A0 : Option Addr) (c0 : Nat) (l0 : List (S72)) (a1 : Int) (r : List (S72)) (w : World) (hr0 : Kd.C k72 w A0 l0.length l0) (hc0 : l0.length ≤ c0) (h : selvageref10_kinded.f k l0 a1 = some r) :
  Calls Try.prog 53 #[.slice A0 l0.length c0, .int .i64 a1] w fun e w' => ∃ v0_ : Value, e = .returned (v0_) ∧ Kd.R k72 72 w' w.heap.size (fun _ => True) v0_ r ∧ Below w.heap.size w w' := by
 have hu72 := Try.underlying72
 have HR0 := Aside0.mk hr0
 have HC0 := Aside0.mk hc0
 clear hr0 hc0
 have HB := Aside0.mk (Below.refl w.heap.size w)
 have H := h
 clear h
 unfold selvageref10_kinded.f at H
 have H' := Aside0.mk H
 clear H
 go_enter Try.func53, Try.ntmps53
 go_wp2
 go_loopg [5, 6] k (fun kq v5 v6 w' => ∃ (x5_1 : List (S72)) (x6_1 : Int), v6 = .int .i64 x6_1 ∧ Aside0 (selvageref10_kinded.l0 kq l0 a1 x5_1 x6_1 = some r) ∧ Aside0 (kq ≤ k) ∧ Aside0 (Kd.R k72 72 w' w.heap.size (fun _ => True) v5 x5_1) ∧ Aside0 (Below w.heap.size w w'))
 case atStart => exact ⟨(([] : List (S72))), (0), eqNow, H', ⟨Nat.le_refl _⟩, ⟨by first | exact Kd.R_nil _ _ _ _ _ | exact Kd.N_nil _ _ _ _ _ | exact Kd.V_nil _ _ _ _ _ | exact Kd.Q_nil _ _ _ _ _ | exact Kd.S_nil _ _ _ _ _⟩, ⟨belNow⟩⟩
 case round =>
  clear H'
  obtain ⟨x5_1, x6_1, rfl, HA, HK1, HO_5, HB⟩ := hrel
  cases gk with
  | zero => exact absurd HA.out (by simp [selvageref10_kinded.l0])
  | succ k1 =>
   have H := HA.out
   clear HA
   simp only [selvageref10_kinded.l0] at H
   replace H := itLn H
   rcases H with ⟨-, c3b0, H⟩ | ⟨-, c3b0, H⟩
   ·obtain rfl := Option.some.inj H
    go_wp2
    go_ret
    exact ⟨_, eqEnd, by (with_reducible repeat (first | apply Kd.R_alloc | apply Kd.R_drewN | apply Kd.R_drew)); exact HO_5.out, belNow⟩
   replace H := itLn H
   rcases H with ⟨_, _, H⟩ | ⟨-, c4b0, H⟩
   ·cases H
   replace H := itEn H
   rcases H with ⟨c5, c5b0, c5b1, H⟩ | ⟨-, c5b0, c5b1, H⟩
   ·have H' := Aside0.mk H
    clear H
    obtain ⟨ad330, rfl, hx330_0, hx330_1, p330, q330⟩ := atU_T72 HR0 HB x6_1
    go_wp2
    go_roundg k1
    case measure => have := HK1.out; omega
    case rel => exact ⟨(x5_1), (wrap64 (x6_1 + 1)), eqNow, H', ⟨by have := HK1.out; omega⟩, ⟨kdMv HO_5⟩, ⟨belNow⟩⟩
   replace H := itLn H
   rcases H with ⟨_, _, H⟩ | ⟨c6, -, H⟩
   ·cases H
   have LMc6 := Aside0.mk c6
   clear c6
   obtain ⟨y332, hy332⟩ : ∃ y_ : List (S72), y_ = (x5_1 ++ [(⟨(rd_T72 l0 x6_1).f0, (rd_T72 l0 x6_1).f1⟩ : S72)]) := ⟨_, rfl⟩
   replace H : (selvageref10_kinded.l0 k1 l0 a1 y332 (wrap64 (x6_1 + 1))) = some r := by first | (rw [hy332]; with_reducible exact H) | (have H2_ := (Option.bind_some _ _).symm.trans H; rw [hy332]; with_reducible exact H2_) | (have H2_ := (Option.bind_some _ _).symm.trans H; with_reducible exact H2_) | with_reducible exact H | (rw [hy332]; exact H) | exact H
   have Ny332 := Aside0.mk hy332
   clear hy332
   have H' := Aside0.mk H
   clear H
   obtain ⟨ad330, rfl, hx330_0, hx330_1, p330, q330⟩ := atU_T72 HR0 HB x6_1
   have p331 : 0 ≤ (x6_1 : Int) := ofDec
   have q331 : x6_1 < (l0.length : Int) := ofDec
   obtain ⟨ad331, e331, hx331_0, hx331_1⟩ := at_T72 HR0.out x6_1 p331 q331
   obtain rfl : ad330 = ad331 := (by injection e331)
   replace hx331_0 := cUp HB.out hx331_0
   replace hx331_1 := cUp HB.out hx331_1
   replace p331 := eq_true p331
   replace q331 := eq_true q331
   go_wp2_with (first | ((with_reducible refine gate_builtin (b := .append) (xs := #[.tmp 20, .tmp 25]) rfl ?_); at_builtin; refine Kd.R_append k72 (w0 := w) w.heap.size rfl (.tmp 20) (.tmp 25) 39 72 (.agg #[(.int .i64 0), (.string ⟨#[]⟩)]) 24 rfl Try.underlying39 info72 rfl (by decide) (by omega) u5 x5_1 (⟨(rd_T72 l0 x6_1).f0, (rd_T72 l0 x6_1).f1⟩ : S72) [.int .i64 ((rd_T72 l0 x6_1).f0), .string ((rd_T72 l0 x6_1).f1)] (fun _ => True) (fun _ => False) rfl rfl ?aP (fun _ hk => hk.elim) ?aF ?aO ?aB ?aS ?aL ?_; (case aP => exact k72_mkM _ _ _ (⟨(rd_T72 l0 x6_1).f0, (rd_T72 l0 x6_1).f1⟩ : S72)); (case aB => exact belNow); (case aF => exact (fun _ _ => trivial)); (case aO => exact (kdUp HO_5.out)); (case aS => exact (below_size belNow)); (case aL => have := LMc6.out; omega); intro v333 w7 ho hb hg hat; rw [← Ny332.out] at ho; replace HB := Aside0.mk hb; have HO334 := Aside0.mk (ho); clear HO_5; clear ho hb hg hat))
   go_roundg k1
   case measure => have := HK1.out; omega
   case rel => exact ⟨(y332), (wrap64 (x6_1 + 1)), eqNow, H', ⟨by have := HK1.out; omega⟩, ⟨kdMv HO334⟩, ⟨belNow⟩⟩
mutual
def selvageref10_Sorted.l0 : Nat → List (S72) → List (S72) → List (S72) → Int → Option ((List (S72)))
 | 0, _, _, _, _ => none
 | k + 1, x0, x3, x4, x5 => if x5 < (x0.length : Int) then (if 0 ≤ x5 then (if ((rd_T72 x0 x5).f0) = 2 then (selvageref10_Sorted.j1 k x0 x3 x4 x5 true) else (selvageref10_Sorted.j1 k x0 x3 x4 x5 (((rd_T72 x0 x5).f0) == 3))) else (none)) else ((selvageref10_kinded.f k x4 2).bind fun t335 => (if x3.length + t335.length < 5864062014805 then ((some (x3 ++ t335 : List (S72))).bind fun y338 => ((selvageref10_kinded.f k x4 3).bind fun t341 => (if y338.length + t341.length < 5864062014805 then (some (y338 ++ t341)) else (none)))) else (none)))
def selvageref10_Sorted.j1 : Nat → List (S72) → List (S72) → List (S72) → Int → Bool → Option ((List (S72)))
 | 0, _, _, _, _, _ => none
 | k + 1, x0, x3, x4, x5, x25 => if x25 = true then (if 0 ≤ x5 then (if x5 < (x0.length : Int) then (if x4.length < 5864062014805 then (selvageref10_Sorted.l0 k x0 x3 (x4 ++ [(⟨(rd_T72 x0 x5).f0, (rd_T72 x0 x5).f1⟩ : S72)]) (wrap64 (x5 + 1))) else (none)) else (none)) else (none)) else ((selvageref10_kinded.f k x4 2).bind fun t353 => (if x3.length + t353.length < 5864062014805 then ((some (x3 ++ t353 : List (S72))).bind fun y356 => ((selvageref10_kinded.f k x4 3).bind fun t359 => (if y356.length + t359.length < 5864062014805 then ((some (y356 ++ t359 : List (S72))).bind fun y362 => (if 0 ≤ x5 then (if x5 < (x0.length : Int) then (if y362.length < 5864062014805 then (selvageref10_Sorted.l0 k x0 (y362 ++ [(⟨(rd_T72 x0 x5).f0, (rd_T72 x0 x5).f1⟩ : S72)]) ([] : List (S72)) (wrap64 (x5 + 1))) else (none)) else (none)) else (none))) else (none)))) else (none)))
end
def selvageref10_Sorted.f (k : Nat) (l0 : List (S72)) : Option ((List (S72))) := selvageref10_Sorted.l0 k l0 ([] : List (S72)) ([] : List (S72)) 0
set_option maxHeartbeats 8000000 in
set_option maxRecDepth 100000 in
theorem selvageref10_Sorted.calls (k : Nat) (A0 : Option Addr) (c0 : Nat) (l0 : List (S72)) (r : List (S72)) (w : World) (hr0 : Kd.C k72 w A0 l0.length l0) (hc0 : l0.length ≤ c0) (h : selvageref10_Sorted.f k l0 = some r) :
  Calls Try.prog 30 #[.slice A0 l0.length c0] w fun e w' => ∃ v0_ : Value, e = .returned (v0_) ∧ Kd.R k72 72 w' w.heap.size (fun _ => True) v0_ r ∧ Below w.heap.size w w' := by
 have hu72 := Try.underlying72
 have HR0 := Aside0.mk hr0
 have HC0 := Aside0.mk hc0
 clear hr0 hc0
 have HB := Aside0.mk (Below.refl w.heap.size w)
 have H := h
 clear h
 unfold selvageref10_Sorted.f at H
 have H' := Aside0.mk H
 clear H
 go_enter Try.func30, Try.ntmps30
 go_wp2
 go_loopg [3, 4, 5] k (fun kq v3 v4 v5 w' => ∃ (x3_1 : List (S72)) (x4_1 : List (S72)) (x5_1 : Int), v5 = .int .i64 x5_1 ∧ Aside0 (selvageref10_Sorted.l0 kq l0 x3_1 x4_1 x5_1 = some r) ∧ Aside0 (kq ≤ k) ∧ Aside0 (Kd.R k72 72 w' w.heap.size (fun k_ => some k_ ≠ (v4 : Value).ownBlock) v3 x3_1) ∧ Aside0 (Kd.R k72 72 w' w.heap.size (fun k_ => some k_ ≠ (v3 : Value).ownBlock) v4 x4_1) ∧ Aside0 (Below w.heap.size w w'))
 case atStart => exact ⟨(([] : List (S72))), (([] : List (S72))), (0), eqNow, H', ⟨Nat.le_refl _⟩, ⟨by first | exact Kd.R_nil _ _ _ _ _ | exact Kd.N_nil _ _ _ _ _ | exact Kd.V_nil _ _ _ _ _ | exact Kd.Q_nil _ _ _ _ _ | exact Kd.S_nil _ _ _ _ _⟩, ⟨by first | exact Kd.R_nil _ _ _ _ _ | exact Kd.N_nil _ _ _ _ _ | exact Kd.V_nil _ _ _ _ _ | exact Kd.Q_nil _ _ _ _ _ | exact Kd.S_nil _ _ _ _ _⟩, ⟨belNow⟩⟩
 case round =>
  clear H'
  obtain ⟨x3_1, x4_1, x5_1, rfl, HA, HK1, HO_3, HO_4, HB⟩ := hrel
  cases gk with
  | zero => exact absurd HA.out (by simp [selvageref10_Sorted.l0])
  | succ k1 =>
   have H := HA.out
   clear HA
   simp only [selvageref10_Sorted.l0] at H
   replace H := itLn H
   rcases H with ⟨-, c2b0, H⟩ | ⟨-, c2b0, H⟩
   ·replace H := bdS H
    obtain ⟨t335, A26, H⟩ := H
    replace H := itLn H
    rcases H with ⟨_, _, H⟩ | ⟨c27, -, H⟩
    ·cases H
    have LMc27 := Aside0.mk c27
    clear c27
    obtain ⟨y338, hy338⟩ : ∃ y_ : List (S72), y_ = (x3_1 ++ t335) := ⟨_, rfl⟩
    replace H : ((selvageref10_kinded.f k1 x4_1 3).bind fun t341 => (if y338.length + t341.length < 5864062014805 then (some (y338 ++ t341)) else (none))) = some r := by first | (rw [hy338]; with_reducible exact H) | (have H2_ := (Option.bind_some _ _).symm.trans H; rw [hy338]; with_reducible exact H2_) | (have H2_ := (Option.bind_some _ _).symm.trans H; with_reducible exact H2_) | with_reducible exact H | (rw [hy338]; exact H) | exact H
    have Ny338 := Aside0.mk hy338
    clear hy338
    replace H := bdS H
    obtain ⟨t341, A28, H⟩ := H
    replace H := itLn H
    rcases H with ⟨_, _, H⟩ | ⟨c29, -, H⟩
    ·cases H
    have LMc29 := Aside0.mk c29
    clear c29
    obtain ⟨y344, hy344⟩ : ∃ y_ : List (S72), y_ = (y338 ++ t341) := ⟨_, rfl⟩
    replace H : (some y344) = some r := by first | (rw [hy344]; with_reducible exact H) | (have H2_ := (Option.bind_some _ _).symm.trans H; rw [hy344]; with_reducible exact H2_) | (have H2_ := (Option.bind_some _ _).symm.trans H; with_reducible exact H2_) | with_reducible exact H | (rw [hy344]; exact H) | exact H
    have Ny344 := Aside0.mk hy344
    clear hy344
    obtain rfl := Option.some.inj H
    obtain ⟨Ao30, co30, eo30⟩ := Kd.R_slice HO_4.out
    subst eo30
    go_wp2_with (first | ((with_reducible refine gate_callee (f := 53) rfl ?_); refine goL (some 50) Try.func53 #[.slice Ao30 x4_1.length co30, .int .i64 2] ?_; (with_reducible refine (selvageref10_kinded.calls k1 _ _ x4_1 2 t335 _ ?side1 ?side2 A26.out).mono ?_); (case side1 => repeat (first | exact (Kd.R_reads' HO_4.out).2.2 | (with_reducible refine Kd.C_alloc ?_ _) | (with_reducible refine Kd.C_drewN ?_ _) | (with_reducible refine Kd.C_drew ?_))); (case side2 => exact (Kd.R_reads' HO_4.out).2.1); rintro e w31 ⟨v336, rfl, ho0, hb⟩; refine ⟨_, rfl, ?_⟩; have HO337 := Aside0.mk (Kd.R_lower (Kd.R_new' (Kd.R_new' ho0 (Kd.R_lt (kdUp HO_3.out))) (Kd.R_lt (kdUp HO_4.out))) (below_size belNow)); replace HO_3 := Aside0.mk (Kd.R_elder' (kdUp HO_3.out) (Kd.R_base ho0) hb); replace HO_4 := Aside0.mk (Kd.R_elder' (kdUp HO_4.out) (Kd.R_base ho0) hb); replace HB := hbD HB hb; clear hb; (try clear ho0); obtain ⟨Ao33, co33, eo33⟩ := Kd.R_slice HO337.out; subst eo33) | ((with_reducible refine gate_builtin (b := .append) (xs := #[.tmp 48, .tmp 50]) rfl ?_); at_builtin; refine Kd.R_append_rows k72 (w0 := w) w.heap.size rfl (.tmp 48) (.tmp 50) 39 72 (.agg #[(.int .i64 0), (.string ⟨#[]⟩)]) 24 rfl Try.underlying39 info72 rfl (by decide) (by omega) u3 x3_1 t335 _ _ _ (fun k_ => some k_ ≠ (.slice Ao30 x4_1.length co30 : Value).ownBlock ∧ some k_ ≠ (.slice Ao33 t335.length co33 : Value).ownBlock) (fun _ => False) rfl rfl ?aO ?aR (fun _ _ h => h) (fun _ h => h.elim) ?aF ?aB ?aS ?aL ?_; (case aR => repeat (first | exact (Kd.R_reads' HO337.out).2.2 | (with_reducible refine Kd.C_alloc ?_ _) | (with_reducible refine Kd.C_drewN ?_ _) | (with_reducible refine Kd.C_drew ?_))); (case aB => exact belNow); (case aF => exact (fun k_ hk => ⟨Kd.fresh' (Kd.R_lt (kdUp HO_4.out)) k_ hk, Kd.fresh' (Kd.R_lt (kdUp HO337.out)) k_ hk⟩)); (case aO => exact (kdUp HO_3.out)); (case aS => exact (below_size belNow)); (case aL => have := LMc27.out; omega); intro v339 w32 ho hb hg hat; rw [← Ny338.out] at ho; replace HO_4 := Aside0.mk (Kd.R_after (ok := (fun k_ => some k_ ≠ (.slice Ao33 t335.length co33 : Value).ownBlock)) (by (with_reducible repeat (first | apply Kd.R_alloc | apply Kd.R_drewN | apply Kd.R_drew)); exact Kd.R_mono HO_4.out (fun _ hk => ⟨hk.2, hk.1⟩)) hg hat); replace HO337 := Aside0.mk (Kd.R_after (ok := (fun k_ => some k_ ≠ (.slice Ao30 x4_1.length co30 : Value).ownBlock)) (by (with_reducible repeat (first | apply Kd.R_alloc | apply Kd.R_drewN | apply Kd.R_drew)); exact Kd.R_mono HO337.out (fun _ hk => ⟨hk.2, hk.1.2⟩)) hg hat); replace HB := Aside0.mk hb; have HO340 := Aside0.mk (ho); clear HO_3; clear ho hb hg hat) | ((with_reducible refine gate_callee (f := 53) rfl ?_); refine goL (some 54) Try.func53 #[.slice Ao30 x4_1.length co30, .int .i64 3] ?_; (with_reducible refine (selvageref10_kinded.calls k1 _ _ x4_1 3 t341 _ ?side1 ?side2 A28.out).mono ?_); (case side1 => repeat (first | exact (Kd.R_reads' HO_4.out).2.2 | (with_reducible refine Kd.C_alloc ?_ _) | (with_reducible refine Kd.C_drewN ?_ _) | (with_reducible refine Kd.C_drew ?_))); (case side2 => exact (Kd.R_reads' HO_4.out).2.1); rintro e w34 ⟨v342, rfl, ho0, hb⟩; refine ⟨_, rfl, ?_⟩; have HO343 := Aside0.mk (Kd.R_lower (Kd.R_new' (Kd.R_new' (Kd.R_new' ho0 (Kd.R_lt (kdUp HO_4.out))) (Kd.R_lt (kdUp HO337.out))) (Kd.R_lt (kdUp HO340.out))) (below_size belNow)); replace HO_4 := Aside0.mk (Kd.R_elder' (kdUp HO_4.out) (Kd.R_base ho0) hb); replace HO337 := Aside0.mk (Kd.R_elder' (kdUp HO337.out) (Kd.R_base ho0) hb); replace HO340 := Aside0.mk (Kd.R_elder' (kdUp HO340.out) (Kd.R_base ho0) hb); replace HB := hbD HB hb; clear hb; (try clear ho0); obtain ⟨Ao36, co36, eo36⟩ := Kd.R_slice HO343.out; subst eo36) | ((with_reducible refine gate_builtin (b := .append) (xs := #[.tmp 52, .tmp 54]) rfl ?_); at_builtin; refine Kd.R_append_rows k72 (w0 := w) w.heap.size rfl (.tmp 52) (.tmp 54) 39 72 (.agg #[(.int .i64 0), (.string ⟨#[]⟩)]) 24 rfl Try.underlying39 info72 rfl (by decide) (by omega) v339 y338 t341 _ _ _ (fun k_ => some k_ ≠ (.slice Ao30 x4_1.length co30 : Value).ownBlock ∧ some k_ ≠ (.slice Ao33 t335.length co33 : Value).ownBlock ∧ some k_ ≠ (.slice Ao36 t341.length co36 : Value).ownBlock) (fun _ => False) rfl rfl ?aO ?aR (fun _ _ h => h) (fun _ h => h.elim) ?aF ?aB ?aS ?aL ?_; (case aR => repeat (first | exact (Kd.R_reads' HO343.out).2.2 | (with_reducible refine Kd.C_alloc ?_ _) | (with_reducible refine Kd.C_drewN ?_ _) | (with_reducible refine Kd.C_drew ?_))); (case aB => exact belNow); (case aF => exact (fun k_ hk => ⟨Kd.fresh' (Kd.R_lt (kdUp HO_4.out)) k_ hk, Kd.fresh' (Kd.R_lt (kdUp HO337.out)) k_ hk, Kd.fresh' (Kd.R_lt (kdUp HO343.out)) k_ hk⟩)); (case aO => exact (by (with_reducible repeat (first | apply Kd.R_alloc | apply Kd.R_drewN | apply Kd.R_drew)); exact Kd.R_mono HO340.out (fun _ hk => ⟨hk.1.1, ⟨hk.1.2, hk.2⟩⟩))); (case aS => exact (below_size belNow)); (case aL => have := LMc29.out; omega); intro v345 w35 ho hb hg hat; rw [← Ny344.out] at ho; replace HO_4 := Aside0.mk (Kd.R_after (ok := (fun k_ => some k_ ≠ (.slice Ao33 t335.length co33 : Value).ownBlock ∧ some k_ ≠ (.slice Ao36 t341.length co36 : Value).ownBlock)) (by (with_reducible repeat (first | apply Kd.R_alloc | apply Kd.R_drewN | apply Kd.R_drew)); exact Kd.R_mono HO_4.out (fun _ hk => ⟨⟨hk.1.1, hk.2⟩, hk.1.2⟩)) hg hat); replace HO337 := Aside0.mk (Kd.R_after (ok := (fun k_ => some k_ ≠ (.slice Ao30 x4_1.length co30 : Value).ownBlock ∧ some k_ ≠ (.slice Ao36 t341.length co36 : Value).ownBlock)) (by (with_reducible repeat (first | apply Kd.R_alloc | apply Kd.R_drewN | apply Kd.R_drew)); exact Kd.R_mono HO337.out (fun _ hk => ⟨⟨hk.1.1, hk.2⟩, hk.1.2⟩)) hg hat); replace HO343 := Aside0.mk (Kd.R_after (ok := (fun k_ => some k_ ≠ (.slice Ao30 x4_1.length co30 : Value).ownBlock ∧ some k_ ≠ (.slice Ao33 t335.length co33 : Value).ownBlock)) (by (with_reducible repeat (first | apply Kd.R_alloc | apply Kd.R_drewN | apply Kd.R_drew)); exact Kd.R_mono HO343.out (fun _ hk => ⟨⟨hk.1.1.2, hk.1.2⟩, hk.2⟩)) hg hat); replace HB := Aside0.mk hb; have HO346 := Aside0.mk (ho); clear HO340; clear ho hb hg hat))
    go_ret
    exact ⟨_, eqEnd, by (with_reducible repeat (first | apply Kd.R_alloc | apply Kd.R_drewN | apply Kd.R_drew)); exact Kd.R_mono HO346.out (fun _ hk => trivial), belNow⟩
   have HC3 := Aside0.mk H
   clear H
   go_upto_region 5 with (fail)
   go_cut [25] (fun v25 wc => ∃ (kq : Nat) (x25_2 : Bool), v25 = .bool x25_2 ∧ Aside0 (selvageref10_Sorted.j1 kq l0 x3_1 x4_1 x5_1 x25_2 = some r) ∧ Aside0 (kq ≤ k1) ∧ Aside0 (Kd.R k72 72 wc w.heap.size (fun k_ => some k_ ≠ (u4 : Value).ownBlock) u3 x3_1) ∧ Aside0 (Kd.R k72 72 wc w.heap.size (fun k_ => some k_ ≠ (u3 : Value).ownBlock) u4 x4_1) ∧ Aside0 (Below w.heap.size w wc))
   case first =>
    have H := HC3.out
    clear HC3
    replace H := itLn H
    rcases H with ⟨_, _, H⟩ | ⟨-, c4b0, H⟩
    ·cases H
    (first | rw [c4b0] | (simp only [i64_w, i32_w]; rw [c4b0]) | skip)
    replace H := itE H
    rcases H with ⟨-, c5b0, c5b1, H⟩ | ⟨c5, c5b0, c5b1, H⟩
    ·have H' := Aside0.mk H
     clear H
     obtain ⟨ad347, rfl, hx347_0, hx347_1, p347, q347⟩ := atU_T72 HR0 HB x5_1
     go_wp2
     go_meet
     case rel => exact ⟨_, (true), eqNow, H', ⟨by have := HK1.out; first | omega | exact Nat.le_refl _⟩, ⟨kdMv HO_3⟩, ⟨kdMv HO_4⟩, ⟨belNow⟩⟩
    have H' := Aside0.mk H
    clear H
    obtain ⟨ad347, rfl, hx347_0, hx347_1, p347, q347⟩ := atU_T72 HR0 HB x5_1
    have p348 : 0 ≤ (x5_1 : Int) := ofDec
    have q348 : x5_1 < (l0.length : Int) := ofDec
    obtain ⟨ad348, e348, hx348_0, hx348_1⟩ := at_T72 HR0.out x5_1 p348 q348
    obtain rfl : ad347 = ad348 := (by injection e348)
    replace hx348_0 := cUp HB.out hx348_0
    replace hx348_1 := cUp HB.out hx348_1
    replace p348 := eq_true p348
    replace q348 := eq_true q348
    go_wp2
    go_meet
    case rel => exact ⟨_, ((((rd_T72 l0 x5_1).f0) == 3)), eqNow, H', ⟨by have := HK1.out; first | omega | exact Nat.le_refl _⟩, ⟨kdMv HO_3⟩, ⟨kdMv HO_4⟩, ⟨belNow⟩⟩
   case rest =>
    clear HC3
    try clear c2
    try clear c2b0
    obtain ⟨kq, x25_2, rfl, HA, HJ2, HO_3, HO_4, HB⟩ := hcut
    cases kq with
    | zero => exact absurd HA.out (by simp [selvageref10_Sorted.j1])
    | succ kj2 =>
     have H := HA.out
     clear HA
     simp only [selvageref10_Sorted.j1] at H
     replace H := itB H
     rcases H with ⟨rfl, H⟩ | ⟨rfl, H⟩
     ·replace H := itLn H
      rcases H with ⟨_, _, H⟩ | ⟨-, c7b0, H⟩
      ·cases H
      replace H := itLn H
      rcases H with ⟨_, _, H⟩ | ⟨-, c8b0, H⟩
      ·cases H
      replace H := itLn H
      rcases H with ⟨_, _, H⟩ | ⟨c9, -, H⟩
      ·cases H
      have LMc9 := Aside0.mk c9
      clear c9
      obtain ⟨y350, hy350⟩ : ∃ y_ : List (S72), y_ = (x4_1 ++ [(⟨(rd_T72 l0 x5_1).f0, (rd_T72 l0 x5_1).f1⟩ : S72)]) := ⟨_, rfl⟩
      replace H : (selvageref10_Sorted.l0 kj2 l0 x3_1 y350 (wrap64 (x5_1 + 1))) = some r := by first | (rw [hy350]; with_reducible exact H) | (have H2_ := (Option.bind_some _ _).symm.trans H; rw [hy350]; with_reducible exact H2_) | (have H2_ := (Option.bind_some _ _).symm.trans H; with_reducible exact H2_) | with_reducible exact H | (rw [hy350]; exact H) | exact H
      have Ny350 := Aside0.mk hy350
      clear hy350
      have H' := Aside0.mk H
      clear H
      obtain ⟨ad349, rfl, hx349_0, hx349_1, p349, q349⟩ := atU_T72 HR0 HB x5_1
      go_wp2_with (first | ((with_reducible refine gate_builtin (b := .append) (xs := #[.tmp 26, .tmp 31]) rfl ?_); at_builtin; refine Kd.R_append k72 (w0 := w) w.heap.size rfl (.tmp 26) (.tmp 31) 39 72 (.agg #[(.int .i64 0), (.string ⟨#[]⟩)]) 24 rfl Try.underlying39 info72 rfl (by decide) (by omega) u4 x4_1 (⟨(rd_T72 l0 x5_1).f0, (rd_T72 l0 x5_1).f1⟩ : S72) [.int .i64 ((rd_T72 l0 x5_1).f0), .string ((rd_T72 l0 x5_1).f1)] (fun k_ => some k_ ≠ (u3 : Value).ownBlock) (fun _ => False) rfl rfl ?aP (fun _ hk => hk.elim) ?aF ?aO ?aB ?aS ?aL ?_; (case aP => exact k72_mkM _ _ _ (⟨(rd_T72 l0 x5_1).f0, (rd_T72 l0 x5_1).f1⟩ : S72)); (case aB => exact belNow); (case aF => exact (fun k_ hk => Kd.fresh' (Kd.R_lt (kdUp HO_3.out)) k_ hk)); (case aO => exact (kdUp HO_4.out)); (case aS => exact (below_size belNow)); (case aL => have := LMc9.out; omega); intro v351 w10 ho hb hg hat; rw [← Ny350.out] at ho; replace HO_3 := Aside0.mk (Kd.R_after (ok := (fun _ => True)) (by (with_reducible repeat (first | apply Kd.R_alloc | apply Kd.R_drewN | apply Kd.R_drew)); exact Kd.R_mono HO_3.out (fun _ hk => ⟨trivial, hk⟩)) hg hat); replace HB := Aside0.mk hb; have HO352 := Aside0.mk (ho); clear HO_4; clear ho hb hg hat))
      go_roundg kj2
      case measure => have := HK1.out; have := HJ2.out; omega
      case rel => exact ⟨(x3_1), (y350), (wrap64 (x5_1 + 1)), eqNow, H', ⟨by have := HK1.out; have := HJ2.out; omega⟩, ⟨by (with_reducible repeat (first | apply Kd.R_alloc | apply Kd.R_drewN | apply Kd.R_drew)); exact Kd.R_mono HO_3.out (fun _ hk => hk.2)⟩, ⟨kdMv HO352⟩, ⟨belNow⟩⟩
     replace H := bdS H
     obtain ⟨t353, A11, H⟩ := H
     replace H := itLn H
     rcases H with ⟨_, _, H⟩ | ⟨c12, -, H⟩
     ·cases H
     have LMc12 := Aside0.mk c12
     clear c12
     obtain ⟨y356, hy356⟩ : ∃ y_ : List (S72), y_ = (x3_1 ++ t353) := ⟨_, rfl⟩
     replace H : ((selvageref10_kinded.f kj2 x4_1 3).bind fun t359 => (if y356.length + t359.length < 5864062014805 then ((some (y356 ++ t359 : List (S72))).bind fun y362 => (if 0 ≤ x5_1 then (if x5_1 < (l0.length : Int) then (if y362.length < 5864062014805 then (selvageref10_Sorted.l0 kj2 l0 (y362 ++ [(⟨(rd_T72 l0 x5_1).f0, (rd_T72 l0 x5_1).f1⟩ : S72)]) ([] : List (S72)) (wrap64 (x5_1 + 1))) else (none)) else (none)) else (none))) else (none))) = some r := by first | (rw [hy356]; with_reducible exact H) | (have H2_ := (Option.bind_some _ _).symm.trans H; rw [hy356]; with_reducible exact H2_) | (have H2_ := (Option.bind_some _ _).symm.trans H; with_reducible exact H2_) | with_reducible exact H | (rw [hy356]; exact H) | exact H
     have Ny356 := Aside0.mk hy356
     clear hy356
     replace H := bdS H
     obtain ⟨t359, A13, H⟩ := H
     replace H := itLn H
     rcases H with ⟨_, _, H⟩ | ⟨c14, -, H⟩
     ·cases H
     have LMc14 := Aside0.mk c14
     clear c14
     obtain ⟨y362, hy362⟩ : ∃ y_ : List (S72), y_ = (y356 ++ t359) := ⟨_, rfl⟩
     replace H : (if 0 ≤ x5_1 then (if x5_1 < (l0.length : Int) then (if y362.length < 5864062014805 then (selvageref10_Sorted.l0 kj2 l0 (y362 ++ [(⟨(rd_T72 l0 x5_1).f0, (rd_T72 l0 x5_1).f1⟩ : S72)]) ([] : List (S72)) (wrap64 (x5_1 + 1))) else (none)) else (none)) else (none)) = some r := by first | (rw [hy362]; with_reducible exact H) | (have H2_ := (Option.bind_some _ _).symm.trans H; rw [hy362]; with_reducible exact H2_) | (have H2_ := (Option.bind_some _ _).symm.trans H; with_reducible exact H2_) | with_reducible exact H | (rw [hy362]; exact H) | exact H
     have Ny362 := Aside0.mk hy362
     clear hy362
     replace H := itLn H
     rcases H with ⟨_, _, H⟩ | ⟨-, c15b0, H⟩
     ·cases H
     replace H := itLn H
     rcases H with ⟨_, _, H⟩ | ⟨-, c16b0, H⟩
     ·cases H
     replace H := itLn H
     rcases H with ⟨_, _, H⟩ | ⟨c17, -, H⟩
     ·cases H
     have LMc17 := Aside0.mk c17
     clear c17
     obtain ⟨y366, hy366⟩ : ∃ y_ : List (S72), y_ = (y362 ++ [(⟨(rd_T72 l0 x5_1).f0, (rd_T72 l0 x5_1).f1⟩ : S72)]) := ⟨_, rfl⟩
     replace H : (selvageref10_Sorted.l0 kj2 l0 y366 ([] : List (S72)) (wrap64 (x5_1 + 1))) = some r := by first | (rw [hy366]; with_reducible exact H) | (have H2_ := (Option.bind_some _ _).symm.trans H; rw [hy366]; with_reducible exact H2_) | (have H2_ := (Option.bind_some _ _).symm.trans H; with_reducible exact H2_) | with_reducible exact H | (rw [hy366]; exact H) | exact H
     have Ny366 := Aside0.mk hy366
     clear hy366
     have H' := Aside0.mk H
     clear H
     obtain ⟨Ao18, co18, eo18⟩ := Kd.R_slice HO_4.out
     subst eo18
     go_wp2_with (first | ((with_reducible refine gate_callee (f := 53) rfl ?_); refine goL (some 35) Try.func53 #[.slice Ao18 x4_1.length co18, .int .i64 2] ?_; (with_reducible refine (selvageref10_kinded.calls kj2 _ _ x4_1 2 t353 _ ?side1 ?side2 A11.out).mono ?_); (case side1 => repeat (first | exact (Kd.R_reads' HO_4.out).2.2 | (with_reducible refine Kd.C_alloc ?_ _) | (with_reducible refine Kd.C_drewN ?_ _) | (with_reducible refine Kd.C_drew ?_))); (case side2 => exact (Kd.R_reads' HO_4.out).2.1); rintro e w19 ⟨v354, rfl, ho0, hb⟩; refine ⟨_, rfl, ?_⟩; have HO355 := Aside0.mk (Kd.R_lower (Kd.R_new' (Kd.R_new' ho0 (Kd.R_lt (kdUp HO_3.out))) (Kd.R_lt (kdUp HO_4.out))) (below_size belNow)); replace HO_3 := Aside0.mk (Kd.R_elder' (kdUp HO_3.out) (Kd.R_base ho0) hb); replace HO_4 := Aside0.mk (Kd.R_elder' (kdUp HO_4.out) (Kd.R_base ho0) hb); replace HB := hbD HB hb; clear hb; (try clear ho0); obtain ⟨Ao21, co21, eo21⟩ := Kd.R_slice HO355.out; subst eo21) | ((with_reducible refine gate_builtin (b := .append) (xs := #[.tmp 33, .tmp 35]) rfl ?_); at_builtin; refine Kd.R_append_rows k72 (w0 := w) w.heap.size rfl (.tmp 33) (.tmp 35) 39 72 (.agg #[(.int .i64 0), (.string ⟨#[]⟩)]) 24 rfl Try.underlying39 info72 rfl (by decide) (by omega) u3 x3_1 t353 _ _ _ (fun k_ => some k_ ≠ (.slice Ao18 x4_1.length co18 : Value).ownBlock ∧ some k_ ≠ (.slice Ao21 t353.length co21 : Value).ownBlock) (fun _ => False) rfl rfl ?aO ?aR (fun _ _ h => h) (fun _ h => h.elim) ?aF ?aB ?aS ?aL ?_; (case aR => repeat (first | exact (Kd.R_reads' HO355.out).2.2 | (with_reducible refine Kd.C_alloc ?_ _) | (with_reducible refine Kd.C_drewN ?_ _) | (with_reducible refine Kd.C_drew ?_))); (case aB => exact belNow); (case aF => exact (fun k_ hk => ⟨Kd.fresh' (Kd.R_lt (kdUp HO_4.out)) k_ hk, Kd.fresh' (Kd.R_lt (kdUp HO355.out)) k_ hk⟩)); (case aO => exact (kdUp HO_3.out)); (case aS => exact (below_size belNow)); (case aL => have := LMc12.out; omega); intro v357 w20 ho hb hg hat; rw [← Ny356.out] at ho; replace HO_4 := Aside0.mk (Kd.R_after (ok := (fun k_ => some k_ ≠ (.slice Ao21 t353.length co21 : Value).ownBlock)) (by (with_reducible repeat (first | apply Kd.R_alloc | apply Kd.R_drewN | apply Kd.R_drew)); exact Kd.R_mono HO_4.out (fun _ hk => ⟨hk.2, hk.1⟩)) hg hat); replace HO355 := Aside0.mk (Kd.R_after (ok := (fun k_ => some k_ ≠ (.slice Ao18 x4_1.length co18 : Value).ownBlock)) (by (with_reducible repeat (first | apply Kd.R_alloc | apply Kd.R_drewN | apply Kd.R_drew)); exact Kd.R_mono HO355.out (fun _ hk => ⟨hk.2, hk.1.2⟩)) hg hat); replace HB := Aside0.mk hb; have HO358 := Aside0.mk (ho); clear HO_3; clear ho hb hg hat) | ((with_reducible refine gate_callee (f := 53) rfl ?_); refine goL (some 39) Try.func53 #[.slice Ao18 x4_1.length co18, .int .i64 3] ?_; (with_reducible refine (selvageref10_kinded.calls kj2 _ _ x4_1 3 t359 _ ?side1 ?side2 A13.out).mono ?_); (case side1 => repeat (first | exact (Kd.R_reads' HO_4.out).2.2 | (with_reducible refine Kd.C_alloc ?_ _) | (with_reducible refine Kd.C_drewN ?_ _) | (with_reducible refine Kd.C_drew ?_))); (case side2 => exact (Kd.R_reads' HO_4.out).2.1); rintro e w22 ⟨v360, rfl, ho0, hb⟩; refine ⟨_, rfl, ?_⟩; have HO361 := Aside0.mk (Kd.R_lower (Kd.R_new' (Kd.R_new' (Kd.R_new' ho0 (Kd.R_lt (kdUp HO_4.out))) (Kd.R_lt (kdUp HO355.out))) (Kd.R_lt (kdUp HO358.out))) (below_size belNow)); replace HO_4 := Aside0.mk (Kd.R_elder' (kdUp HO_4.out) (Kd.R_base ho0) hb); replace HO355 := Aside0.mk (Kd.R_elder' (kdUp HO355.out) (Kd.R_base ho0) hb); replace HO358 := Aside0.mk (Kd.R_elder' (kdUp HO358.out) (Kd.R_base ho0) hb); replace HB := hbD HB hb; clear hb; (try clear ho0); obtain ⟨Ao24, co24, eo24⟩ := Kd.R_slice HO361.out; subst eo24) | ((with_reducible refine gate_builtin (b := .append) (xs := #[.tmp 37, .tmp 39]) rfl ?_); at_builtin; refine Kd.R_append_rows k72 (w0 := w) w.heap.size rfl (.tmp 37) (.tmp 39) 39 72 (.agg #[(.int .i64 0), (.string ⟨#[]⟩)]) 24 rfl Try.underlying39 info72 rfl (by decide) (by omega) v357 y356 t359 _ _ _ (fun k_ => some k_ ≠ (.slice Ao18 x4_1.length co18 : Value).ownBlock ∧ some k_ ≠ (.slice Ao21 t353.length co21 : Value).ownBlock ∧ some k_ ≠ (.slice Ao24 t359.length co24 : Value).ownBlock) (fun _ => False) rfl rfl ?aO ?aR (fun _ _ h => h) (fun _ h => h.elim) ?aF ?aB ?aS ?aL ?_; (case aR => repeat (first | exact (Kd.R_reads' HO361.out).2.2 | (with_reducible refine Kd.C_alloc ?_ _) | (with_reducible refine Kd.C_drewN ?_ _) | (with_reducible refine Kd.C_drew ?_))); (case aB => exact belNow); (case aF => exact (fun k_ hk => ⟨Kd.fresh' (Kd.R_lt (kdUp HO_4.out)) k_ hk, Kd.fresh' (Kd.R_lt (kdUp HO355.out)) k_ hk, Kd.fresh' (Kd.R_lt (kdUp HO361.out)) k_ hk⟩)); (case aO => exact (by (with_reducible repeat (first | apply Kd.R_alloc | apply Kd.R_drewN | apply Kd.R_drew)); exact Kd.R_mono HO358.out (fun _ hk => ⟨hk.1.1, ⟨hk.1.2, hk.2⟩⟩))); (case aS => exact (below_size belNow)); (case aL => have := LMc14.out; omega); intro v363 w23 ho hb hg hat; rw [← Ny362.out] at ho; replace HO_4 := Aside0.mk (Kd.R_after (ok := (fun k_ => some k_ ≠ (.slice Ao21 t353.length co21 : Value).ownBlock ∧ some k_ ≠ (.slice Ao24 t359.length co24 : Value).ownBlock)) (by (with_reducible repeat (first | apply Kd.R_alloc | apply Kd.R_drewN | apply Kd.R_drew)); exact Kd.R_mono HO_4.out (fun _ hk => ⟨⟨hk.1.1, hk.2⟩, hk.1.2⟩)) hg hat); replace HO355 := Aside0.mk (Kd.R_after (ok := (fun k_ => some k_ ≠ (.slice Ao18 x4_1.length co18 : Value).ownBlock ∧ some k_ ≠ (.slice Ao24 t359.length co24 : Value).ownBlock)) (by (with_reducible repeat (first | apply Kd.R_alloc | apply Kd.R_drewN | apply Kd.R_drew)); exact Kd.R_mono HO355.out (fun _ hk => ⟨⟨hk.1.1, hk.2⟩, hk.1.2⟩)) hg hat); replace HO361 := Aside0.mk (Kd.R_after (ok := (fun k_ => some k_ ≠ (.slice Ao18 x4_1.length co18 : Value).ownBlock ∧ some k_ ≠ (.slice Ao21 t353.length co21 : Value).ownBlock)) (by (with_reducible repeat (first | apply Kd.R_alloc | apply Kd.R_drewN | apply Kd.R_drew)); exact Kd.R_mono HO361.out (fun _ hk => ⟨⟨hk.1.1.2, hk.1.2⟩, hk.2⟩)) hg hat); replace HB := Aside0.mk hb; have HO364 := Aside0.mk (ho); clear HO358; clear ho hb hg hat; have p365 : 0 ≤ (x5_1 : Int) := ofDec; have q365 : x5_1 < (l0.length : Int) := ofDec; obtain ⟨ad365, e365, hx365_0, hx365_1⟩ := at_T72 HR0.out x5_1 p365 q365; cases e365; replace hx365_0 := (HB.out.cell (World.block_lt_of_cell? w _ hx365_0)).trans hx365_0; replace hx365_1 := (HB.out.cell (World.block_lt_of_cell? w _ hx365_1)).trans hx365_1; replace p365 := eq_true p365; replace q365 := eq_true q365) | ((with_reducible refine gate_builtin (b := .append) (xs := #[.tmp 41, .tmp 46]) rfl ?_); at_builtin; refine Kd.R_append k72 (w0 := w) w.heap.size rfl (.tmp 41) (.tmp 46) 39 72 (.agg #[(.int .i64 0), (.string ⟨#[]⟩)]) 24 rfl Try.underlying39 info72 rfl (by decide) (by omega) v363 y362 (⟨(rd_T72 l0 x5_1).f0, (rd_T72 l0 x5_1).f1⟩ : S72) [.int .i64 ((rd_T72 l0 x5_1).f0), .string ((rd_T72 l0 x5_1).f1)] (fun k_ => some k_ ≠ (.slice Ao18 x4_1.length co18 : Value).ownBlock ∧ some k_ ≠ (.slice Ao21 t353.length co21 : Value).ownBlock ∧ some k_ ≠ (.slice Ao24 t359.length co24 : Value).ownBlock) (fun _ => False) rfl rfl ?aP (fun _ hk => hk.elim) ?aF ?aO ?aB ?aS ?aL ?_; (case aP => exact k72_mkM _ _ _ (⟨(rd_T72 l0 x5_1).f0, (rd_T72 l0 x5_1).f1⟩ : S72)); (case aB => exact belNow); (case aF => exact (fun k_ hk => ⟨Kd.fresh' (Kd.R_lt (kdUp HO_4.out)) k_ hk, Kd.fresh' (Kd.R_lt (kdUp HO355.out)) k_ hk, Kd.fresh' (Kd.R_lt (kdUp HO361.out)) k_ hk⟩)); (case aO => exact (kdUp HO364.out)); (case aS => exact (below_size belNow)); (case aL => have := LMc17.out; omega); intro v367 w25 ho hb hg hat; rw [← Ny366.out] at ho; replace HO_4 := Aside0.mk (Kd.R_after (ok := (fun k_ => some k_ ≠ (.slice Ao21 t353.length co21 : Value).ownBlock ∧ some k_ ≠ (.slice Ao24 t359.length co24 : Value).ownBlock)) (kdUp HO_4.out) hg hat); replace HO355 := Aside0.mk (Kd.R_after (ok := (fun k_ => some k_ ≠ (.slice Ao18 x4_1.length co18 : Value).ownBlock ∧ some k_ ≠ (.slice Ao24 t359.length co24 : Value).ownBlock)) (kdUp HO355.out) hg hat); replace HO361 := Aside0.mk (Kd.R_after (ok := (fun k_ => some k_ ≠ (.slice Ao18 x4_1.length co18 : Value).ownBlock ∧ some k_ ≠ (.slice Ao21 t353.length co21 : Value).ownBlock)) (kdUp HO361.out) hg hat); replace HB := Aside0.mk hb; have HO368 := Aside0.mk (ho); clear HO364; clear ho hb hg hat))
     go_roundg kj2
     case measure => have := HK1.out; have := HJ2.out; omega
     case rel => exact ⟨(y366), (([] : List (S72))), (wrap64 (x5_1 + 1)), eqNow, H', ⟨by have := HK1.out; have := HJ2.out; omega⟩, ⟨by (with_reducible repeat (first | apply Kd.R_alloc | apply Kd.R_drewN | apply Kd.R_drew)); exact Kd.R_mono HO368.out (fun _ hk => (by simp [Value.ownBlock]))⟩, ⟨by first | exact Kd.R_nil _ _ _ _ _ | exact Kd.N_nil _ _ _ _ _ | exact Kd.V_nil _ _ _ _ _ | exact Kd.Q_nil _ _ _ _ _ | exact Kd.S_nil _ _ _ _ _⟩, ⟨belNow⟩⟩
end Go.Proofs.Ytkoagpnoaibdjaa.Pp
