import Derived.Test.YtecjoofjiockkaaDoorESt
import Derived.Test.YtecjoofjiockkaaDoorPp0
import Derived.Test.YtecjoofjiockkaaDoorPp2
import Derived.Test.YtecjoofjiockkaaDoorPp4
import Derived.Test.YtecjoofjiockkaaDoorPp8
import Derived.Test.YtecjoofjiockkaaDoorPp16
import Derived.Test.YtecjoofjiockkaaDoorPp17
set_option linter.unusedVariables false
set_option linter.unusedSimpArgs false
namespace Go.Proofs.YtecjoofjiockkaaDoor.Pp
open Go.RowKit Go.Proofs.YtecjoofjiockkaaDoor.Ext Go.Proofs.YtecjoofjiockkaaDoorW.PrintWords Go.Proofs.YtecjoofjiockkaaDoorW.PrintLast Go.Proofs.YtecjoofjiockkaaDoorW.PrintMore
attribute [local go_sem] max2_int min2_int max_two min_two max_three min_three max_four min_four
attribute [local go_sem high] eqA56
def selvagelaw10_works.j0 : Nat → List (S41) → Bool → Option (Bool)
 | 0, _, _ => none
 | k + 1, x3, x53 => if x53 = true then (none) else (if 0 < (x3.length : Int) then ((hunks_Valid.f ((rd_T41 x3 0).f0) ((rd_T41 x3 0).f1) ((rd_T41 x3 0).f2) ((rd_T41 x3 0).f3) ((rd_T41 x3 0).f4) ((rd_T41 x3 0).f5)).bind fun t363 => (if t363.isNone = true then ((hunks_Valid.f 0 0 0 0 (⟨#[]⟩ : ByteArray) ([] : List (S56))).bind fun t365 => ((selvagelaw10_num.f t365).bind fun t366 => (if t366 = 100 then ((hunks_Order.f k x3).bind fun t367 => (if t367.isNone = true then ((hunks_Head.f k (([(⟨#[102, 32, 123, 10]⟩ : ByteArray)] : List ByteArray)) 1).bind fun t372 => (some (t372.toList == ([102, 32, 123] : List UInt8)))) else (none))) else (none)))) else (none))) else (none))
def selvagelaw10_works.f (k : Nat)  : Option (Bool) := (hunks_Build.f k (([(⟨1, 1, 1, 1⟩ : S53)] : List (S53))) (([(⟨#[49, 10]⟩ : ByteArray), (⟨#[50, 10]⟩ : ByteArray), (⟨#[51, 10]⟩ : ByteArray)] : List ByteArray)) (([(⟨#[49, 10]⟩ : ByteArray), (⟨#[120, 10]⟩ : ByteArray), (⟨#[51, 10]⟩ : ByteArray)] : List ByteArray)) 1).bind fun bt352 => (if bt352.2.isNone = true then (if (bt352.1.length : Int) = 1 then (if 0 < (bt352.1.length : Int) then (if (((rd_T41 bt352.1 0).f5).length : Int) = 4 then (if ((rd_T41 bt352.1 0).f0) = 1 then (if ((rd_T41 bt352.1 0).f1) = 3 then (if 1 < (((rd_T41 bt352.1 0).f5).length : Int) then (selvagelaw10_works.j0 k bt352.1 (!(((rd_T56 ((rd_T41 bt352.1 0).f5) 1).f0) == 2) || (!((((rd_T56 ((rd_T41 bt352.1 0).f5) 1).f1).toList) == ([50, 10] : List UInt8))))) else (none)) else (selvagelaw10_works.j0 k bt352.1 true)) else (selvagelaw10_works.j0 k bt352.1 true)) else (selvagelaw10_works.j0 k bt352.1 true)) else (none)) else (selvagelaw10_works.j0 k bt352.1 true)) else (selvagelaw10_works.j0 k bt352.1 true))
theorem selvagelaw10_works.mono_l : ∀ k, (∀ y0 y1, LeO (selvagelaw10_works.j0 k y0 y1) (selvagelaw10_works.j0 (k + 1) y0 y1))
 | 0 => fun _ _ r h => by simp [selvagelaw10_works.j0] at h
 | k + 1 => by
  have ih0 := selvagelaw10_works.mono_l k
  ·intro y0 y1
   unfold selvagelaw10_works.j0
   repeat' first
   | (with_reducible exact ih0 _ _)
   | (with_reducible exact hunks_Build.mono _ _ _ _ _)
   | (with_reducible exact hunks_Head.mono _ _ _)
   | (with_reducible exact hunks_Order.mono _ _)
   | (with_reducible exact LeO.refl _)
   | (with_reducible exact LeO.none _)
   | (with_reducible refine LeO.ite ?_ ?_)
   | (with_reducible refine LeO.bind ?_ (fun _ => ?_))
   | exact ih0 _ _
   | exact hunks_Build.mono _ _ _ _ _
   | exact hunks_Head.mono _ _ _
   | exact hunks_Order.mono _ _
   | exact LeO.none _
   | refine LeO.ite ?_ ?_
   | refine LeO.bind ?_ (fun _ => ?_)
theorem selvagelaw10_works.mono : ∀ k, LeO (selvagelaw10_works.f k ) (selvagelaw10_works.f (k + 1) ) := by
 intro  k
 have ih0 := selvagelaw10_works.mono_l k
 unfold selvagelaw10_works.f
 repeat' first
   | (with_reducible exact ih0 _ _)
   | (with_reducible exact hunks_Build.mono _ _ _ _ _)
   | (with_reducible exact hunks_Head.mono _ _ _)
   | (with_reducible exact hunks_Order.mono _ _)
   | (with_reducible exact LeO.refl _)
   | (with_reducible exact LeO.none _)
   | (with_reducible refine LeO.ite ?_ ?_)
   | (with_reducible refine LeO.bind ?_ (fun _ => ?_))
   | exact ih0 _ _
   | exact hunks_Build.mono _ _ _ _ _
   | exact hunks_Head.mono _ _ _
   | exact hunks_Order.mono _ _
   | exact LeO.none _
   | refine LeO.ite ?_ ?_
   | refine LeO.bind ?_ (fun _ => ?_)
theorem selvagelaw10_works.j0_dead : ∀ k y0, selvagelaw10_works.j0 k y0 true = none
 | 0, _ => rfl
 | k + 1, _ => by simp [selvagelaw10_works.j0]
set_option maxHeartbeats 80000000 in
set_option maxRecDepth 100000 in
theorem selvagelaw10_works.calls (k : Nat)  (r : Bool) (w : World) (hGL : Glob w) (h : selvagelaw10_works.f k  = some r) :
  Calls Tryd.prog 8 #[] w fun e w' => e = .returned (.bool r) ∧ Below w.heap.size w w' := by
 have hu49 := Tryd.underlying53
 have hu53 := Tryd.underlying56
 have hu29 := Tryd.underlying41
 have hu25 := Tryd.underlying28
 have hu73 := Tryd.underlying57
 have HB := Aside0.mk (Below.refl w.heap.size w)
 have H := h
 clear h
 unfold selvagelaw10_works.f at H
 obtain ⟨y343, hy343⟩ : ∃ y_ : List ByteArray, y_ = (([(⟨#[49, 10]⟩ : ByteArray), (⟨#[50, 10]⟩ : ByteArray), (⟨#[51, 10]⟩ : ByteArray)] : List ByteArray)) := ⟨_, rfl⟩
 replace H : ((hunks_Build.f k (([(⟨1, 1, 1, 1⟩ : S53)] : List (S53))) y343 (([(⟨#[49, 10]⟩ : ByteArray), (⟨#[120, 10]⟩ : ByteArray), (⟨#[51, 10]⟩ : ByteArray)] : List ByteArray)) 1).bind fun bt352 => (if bt352.2.isNone = true then (if (bt352.1.length : Int) = 1 then (if 0 < (bt352.1.length : Int) then (if (((rd_T41 bt352.1 0).f5).length : Int) = 4 then (if ((rd_T41 bt352.1 0).f0) = 1 then (if ((rd_T41 bt352.1 0).f1) = 3 then (if 1 < (((rd_T41 bt352.1 0).f5).length : Int) then (selvagelaw10_works.j0 k bt352.1 (!(((rd_T56 ((rd_T41 bt352.1 0).f5) 1).f0) == 2) || (!((((rd_T56 ((rd_T41 bt352.1 0).f5) 1).f1).toList) == ([50, 10] : List UInt8))))) else (none)) else (selvagelaw10_works.j0 k bt352.1 true)) else (selvagelaw10_works.j0 k bt352.1 true)) else (selvagelaw10_works.j0 k bt352.1 true)) else (none)) else (selvagelaw10_works.j0 k bt352.1 true)) else (selvagelaw10_works.j0 k bt352.1 true))) = some r := by first | (rw [hy343]; with_reducible exact H) | (have H2_ := (Option.bind_some _ _).symm.trans H; rw [hy343]; with_reducible exact H2_) | (have H2_ := (Option.bind_some _ _).symm.trans H; with_reducible exact H2_) | with_reducible exact H | (rw [hy343]; exact H) | exact H
 have Ny343 := Aside0.mk hy343
 clear hy343
 obtain ⟨y346, hy346⟩ : ∃ y_ : List ByteArray, y_ = (([(⟨#[49, 10]⟩ : ByteArray), (⟨#[120, 10]⟩ : ByteArray), (⟨#[51, 10]⟩ : ByteArray)] : List ByteArray)) := ⟨_, rfl⟩
 replace H : ((hunks_Build.f k (([(⟨1, 1, 1, 1⟩ : S53)] : List (S53))) y343 y346 1).bind fun bt352 => (if bt352.2.isNone = true then (if (bt352.1.length : Int) = 1 then (if 0 < (bt352.1.length : Int) then (if (((rd_T41 bt352.1 0).f5).length : Int) = 4 then (if ((rd_T41 bt352.1 0).f0) = 1 then (if ((rd_T41 bt352.1 0).f1) = 3 then (if 1 < (((rd_T41 bt352.1 0).f5).length : Int) then (selvagelaw10_works.j0 k bt352.1 (!(((rd_T56 ((rd_T41 bt352.1 0).f5) 1).f0) == 2) || (!((((rd_T56 ((rd_T41 bt352.1 0).f5) 1).f1).toList) == ([50, 10] : List UInt8))))) else (none)) else (selvagelaw10_works.j0 k bt352.1 true)) else (selvagelaw10_works.j0 k bt352.1 true)) else (selvagelaw10_works.j0 k bt352.1 true)) else (none)) else (selvagelaw10_works.j0 k bt352.1 true)) else (selvagelaw10_works.j0 k bt352.1 true))) = some r := by first | (rw [hy346]; with_reducible exact H) | (have H2_ := (Option.bind_some _ _).symm.trans H; rw [hy346]; with_reducible exact H2_) | (have H2_ := (Option.bind_some _ _).symm.trans H; with_reducible exact H2_) | with_reducible exact H | (rw [hy346]; exact H) | exact H
 have Ny346 := Aside0.mk hy346
 clear hy346
 obtain ⟨y349, hy349⟩ : ∃ y_ : List (S53), y_ = (([(⟨1, 1, 1, 1⟩ : S53)] : List (S53))) := ⟨_, rfl⟩
 replace H : ((hunks_Build.f k y349 y343 y346 1).bind fun bt352 => (if bt352.2.isNone = true then (if (bt352.1.length : Int) = 1 then (if 0 < (bt352.1.length : Int) then (if (((rd_T41 bt352.1 0).f5).length : Int) = 4 then (if ((rd_T41 bt352.1 0).f0) = 1 then (if ((rd_T41 bt352.1 0).f1) = 3 then (if 1 < (((rd_T41 bt352.1 0).f5).length : Int) then (selvagelaw10_works.j0 k bt352.1 (!(((rd_T56 ((rd_T41 bt352.1 0).f5) 1).f0) == 2) || (!((((rd_T56 ((rd_T41 bt352.1 0).f5) 1).f1).toList) == ([50, 10] : List UInt8))))) else (none)) else (selvagelaw10_works.j0 k bt352.1 true)) else (selvagelaw10_works.j0 k bt352.1 true)) else (selvagelaw10_works.j0 k bt352.1 true)) else (none)) else (selvagelaw10_works.j0 k bt352.1 true)) else (selvagelaw10_works.j0 k bt352.1 true))) = some r := by first | (rw [hy349]; with_reducible exact H) | (have H2_ := (Option.bind_some _ _).symm.trans H; rw [hy349]; with_reducible exact H2_) | (have H2_ := (Option.bind_some _ _).symm.trans H; with_reducible exact H2_) | with_reducible exact H | (rw [hy349]; exact H) | exact H
 have Ny349 := Aside0.mk hy349
 clear hy349
 replace H := bdS H
 obtain ⟨⟨t352, t353⟩, A1, H⟩ := H
 replace H : (if t353.isNone = true then (if (t352.length : Int) = 1 then (if 0 < (t352.length : Int) then (if (((rd_T41 t352 0).f5).length : Int) = 4 then (if ((rd_T41 t352 0).f0) = 1 then (if ((rd_T41 t352 0).f1) = 3 then (if 1 < (((rd_T41 t352 0).f5).length : Int) then (selvagelaw10_works.j0 k t352 (!(((rd_T56 ((rd_T41 t352 0).f5) 1).f0) == 2) || (!((((rd_T56 ((rd_T41 t352 0).f5) 1).f1).toList) == ([50, 10] : List UInt8))))) else (none)) else (selvagelaw10_works.j0 k t352 true)) else (selvagelaw10_works.j0 k t352 true)) else (selvagelaw10_works.j0 k t352 true)) else (none)) else (selvagelaw10_works.j0 k t352 true)) else (selvagelaw10_works.j0 k t352 true)) = some r := H
 have HC2 := Aside0.mk H
 clear H
 go_enter Tryd.func8, Tryd.ntmps8
 try simp only [List.append_eq, List.cons_append, List.nil_append]
 go_upto_region 4 with (first | ((with_reducible refine gate_dst (N := 5) rfl ?_); (try (refine gate_guard (by rfl) ?_; dsimp only)); refine Kd.R_lit Kd.string _ 9 ?hg (N := 5) ?hd (xs := ([(⟨#[49, 10]⟩ : ByteArray), (⟨#[50, 10]⟩ : ByteArray), (⟨#[51, 10]⟩ : ByteArray)] : List ByteArray)) (inner := [.string (⟨#[49, 10]⟩ : ByteArray), .string (⟨#[50, 10]⟩ : ByteArray), .string (⟨#[51, 10]⟩ : ByteArray)]) (ok := fun _ => True) (okp := fun _ => True) ?hr ?hp (fun _ hk => hk) trivial (Below.refl _ _) (Nat.le_refl _) (by simp) ?_; (case hd => rfl); (case hg => rfl); (case hr => first | (go_simp; done) | (go_simp; rfl)); (case hp => exact (Reps.one (show Kd.M Kd.string _ _ _ (⟨#[49, 10]⟩ : ByteArray) [.string (⟨#[49, 10]⟩ : ByteArray)] from rfl) (Reps.one (show Kd.M Kd.string _ _ _ (⟨#[50, 10]⟩ : ByteArray) [.string (⟨#[50, 10]⟩ : ByteArray)] from rfl) (Reps.one (show Kd.M Kd.string _ _ _ (⟨#[51, 10]⟩ : ByteArray) [.string (⟨#[51, 10]⟩ : ByteArray)] from rfl) (Reps.none _ _))))); intro v344 w3 ho4 hb hg_ hnew_; clear hg_ hnew_; (first | rw [← Ny343.out] at ho4 | (simp only [Int.reduceToNat] at ho4; rw [← Ny343.out] at ho4)); have HO345 := Aside0.mk (Kd.R_lower ho4 (below_size belNow)); replace HB := hbD HB hb; clear hb ho4) | ((with_reducible refine gate_dst (N := 6) rfl ?_); (try (refine gate_guard (by rfl) ?_; dsimp only)); refine Kd.R_lit Kd.string _ 9 ?hg (N := 6) ?hd (xs := ([(⟨#[49, 10]⟩ : ByteArray), (⟨#[120, 10]⟩ : ByteArray), (⟨#[51, 10]⟩ : ByteArray)] : List ByteArray)) (inner := [.string (⟨#[49, 10]⟩ : ByteArray), .string (⟨#[120, 10]⟩ : ByteArray), .string (⟨#[51, 10]⟩ : ByteArray)]) (ok := fun _ => True) (okp := fun _ => True) ?hr ?hp (fun _ hk => hk) trivial (Below.refl _ _) (Nat.le_refl _) (by simp) ?_; (case hd => rfl); (case hg => rfl); (case hr => first | (go_simp; done) | (go_simp; rfl)); (case hp => exact (Reps.one (show Kd.M Kd.string _ _ _ (⟨#[49, 10]⟩ : ByteArray) [.string (⟨#[49, 10]⟩ : ByteArray)] from rfl) (Reps.one (show Kd.M Kd.string _ _ _ (⟨#[120, 10]⟩ : ByteArray) [.string (⟨#[120, 10]⟩ : ByteArray)] from rfl) (Reps.one (show Kd.M Kd.string _ _ _ (⟨#[51, 10]⟩ : ByteArray) [.string (⟨#[51, 10]⟩ : ByteArray)] from rfl) (Reps.none _ _))))); intro v347 w5 ho6 hb hg_ hnew_; clear hg_ hnew_; (first | rw [← Ny346.out] at ho6 | (simp only [Int.reduceToNat] at ho6; rw [← Ny346.out] at ho6)); have HO348 := Aside0.mk (Kd.R_lower (Kd.R_new' ho6 (Kd.R_lt (kdUp HO345.out))) (below_size belNow)); replace HO345 := Aside0.mk (Kd.R_elder' (kdUp HO345.out) (Kd.R_base ho6) hb); replace HB := hbD HB hb; clear hb ho6) | ((with_reducible refine gate_dst (N := 9) rfl ?_); (try (refine gate_guard (by rfl) ?_; dsimp only)); refine Kd.R_lit k53 _ 53 ?hg (N := 9) ?hd (xs := ([(⟨1, 1, 1, 1⟩ : S53)] : List (S53))) (inner := [.int .i64 1, .int .i64 1, .int .i64 1, .int .i64 1]) (ok := fun _ => True) (okp := fun _ => True) ?hr ?hp (fun _ hk => hk) trivial (Below.refl _ _) (Nat.le_refl _) (by simp) ?_; (case hd => rfl); (case hg => rfl); (case hr => first | (go_simp; done) | (go_simp; rfl)); (case hp => exact (Reps.c4 (show Kd.M k53 _ _ _ (⟨1, 1, 1, 1⟩ : S53) [.int .i64 1, .int .i64 1, .int .i64 1, .int .i64 1] from (k53_mkM _ _ _ (⟨1, 1, 1, 1⟩ : S53) )) (Reps.none _ _))); intro v350 w7 ho8 hb hg_ hnew_; clear hg_ hnew_; (first | rw [← Ny349.out] at ho8 | (simp only [Int.reduceToNat] at ho8; rw [← Ny349.out] at ho8)); replace HO345 := Aside0.mk (Kd.R_below (kdUp HO345.out) hb); replace HO348 := Aside0.mk (Kd.R_below (kdUp HO348.out) hb); have HO351 := Aside0.mk (Kd.R_lower ho8 (below_size belNow)); replace HB := hbD HB hb; clear hb ho8; obtain ⟨Ao9, co9, eo9⟩ := Kd.R_slice HO351.out; subst eo9; obtain ⟨Ao10, co10, eo10⟩ := Kd.R_slice HO345.out; subst eo10; obtain ⟨Ao11, co11, eo11⟩ := Kd.R_slice HO348.out; subst eo11) | ((with_reducible refine gate_callee (f := 5) rfl ?_); refine goL (some 12) Tryd.func5 #[.slice Ao9 y349.length co9, .slice Ao10 y343.length co10, .slice Ao11 y346.length co11, .int .i64 1] ?_; (with_reducible refine (hunks_Build.calls k _ _ y349 _ _ y343 _ _ y346 1 t352 t353 _ ?side1 ?side2 ?side3 ?side4 ?side5 ?side6 A1.out).mono ?_); (case side1 => repeat (first | exact (Kd.R_reads' HO351.out).2.2 | (with_reducible refine Kd.C_alloc ?_ _) | (with_reducible refine Kd.C_drewN ?_ _) | (with_reducible refine Kd.C_drew ?_))); (case side2 => exact (Kd.R_reads' HO351.out).2.1); (case side3 => repeat (first | exact (Kd.R_reads' HO345.out).2.2 | (with_reducible refine Kd.C_alloc ?_ _) | (with_reducible refine Kd.C_drewN ?_ _) | (with_reducible refine Kd.C_drew ?_))); (case side4 => exact (Kd.R_reads' HO345.out).2.1); (case side5 => repeat (first | exact (Kd.R_reads' HO348.out).2.2 | (with_reducible refine Kd.C_alloc ?_ _) | (with_reducible refine Kd.C_drewN ?_ _) | (with_reducible refine Kd.C_drew ?_))); (case side6 => exact (Kd.R_reads' HO348.out).2.1); rintro e w12 ⟨v354, rfl, ho0, hb⟩; refine ⟨_, rfl, ?_⟩; replace HO345 := Aside0.mk (Kd.R_below (kdUp HO345.out) hb); replace HO348 := Aside0.mk (Kd.R_below (kdUp HO348.out) hb); replace HO351 := Aside0.mk (Kd.R_below (kdUp HO351.out) hb); have HO355 := Aside0.mk (Kd.S_lower ho0 (below_size belNow)); replace HB := hbD HB hb; clear hb; (try clear ho0); (try simp only [errW_none, errW_some])))
 (try simp only [Act.put, List.setIfInBounds_toArray, List.set_cons_zero, List.set_cons_succ])
 go_cut [53] (fun v53 wc => ∃ (kq : Nat) (x53_1 : Bool), v53 = .bool x53_1 ∧ Aside0 (selvagelaw10_works.j0 kq t352 x53_1 = some r) ∧ Aside0 (kq ≤ k) ∧ Aside0 (Kd.S k41 41 wc w.heap.size (fun _ => True) v354 t352) ∧ Aside0 (Below w.heap.size w wc))
 case first =>
  have H := HC2.out
  clear HC2
  rcases t353 with _ | q356
  ·have H1 : (if (t352.length : Int) = 1 then (if 0 < (t352.length : Int) then (if (((rd_T41 t352 0).f5).length : Int) = 4 then (if ((rd_T41 t352 0).f0) = 1 then (if ((rd_T41 t352 0).f1) = 3 then (if 1 < (((rd_T41 t352 0).f5).length : Int) then (selvagelaw10_works.j0 k t352 (!(((rd_T56 ((rd_T41 t352 0).f5) 1).f0) == 2) || (!((((rd_T56 ((rd_T41 t352 0).f5) 1).f1).toList) == ([50, 10] : List UInt8))))) else (none)) else (selvagelaw10_works.j0 k t352 true)) else (selvagelaw10_works.j0 k t352 true)) else (selvagelaw10_works.j0 k t352 true)) else (none)) else (selvagelaw10_works.j0 k t352 true)) = some r := by rw [if_pos (show (none : Option Int).isNone = true by rfl)] at H; exact H
   clear H
   have H := H1
   clear H1
   try simp only [errW_none, errW_some]
   replace H := itEn H
   rcases H with ⟨c13, -, -, H⟩ | ⟨-, c13b0, c13b1, H⟩
   ·first | exact absurd H (by simp) | (rw [selvagelaw10_works.j0_dead] at H; exact absurd H (by simp))
   (first | rw [c13b0] | (simp only [i64_w, i32_w]; rw [c13b0]) | skip)
   replace H := itLn H
   rcases H with ⟨c14, -, H⟩ | ⟨c14, c14b0, H⟩
   ·first | exact absurd H (by simp) | (rw [selvagelaw10_works.j0_dead] at H; exact absurd H (by simp))
   have c14b1 : decide (0 < t352.length) = true := decide_eq_true (by omega)
   clear c14
   replace H := itEn H
   rcases H with ⟨c15, c15b0, c15b1, H⟩ | ⟨-, c15b0, c15b1, H⟩
   ·have H' := Aside0.mk H
    clear H
    obtain ⟨Ao22, co22, eo22⟩ := Kd.S_slice HO355.out
    subst eo22
    have p357 : 0 ≤ (0 : Int) := (by omega)
    have q357 : 0 < (t352.length : Int) := ofDec
    obtain ⟨ad357, A357_5, c357_5, e357, hx357_0, hx357_1, hx357_2, hx357_3, hx357_4, hx357_5, hl357_5, hi357_5⟩ := at_T41 (Kd.S_reads' HO355.out).2.2 0 p357 q357
    cases e357
    obtain ⟨ce357, hce357, hMe357, hcc357⟩ := Kd.S_get HO355.out z41 0 p357 (by first | exact q357 | exact ofDec | (have e_ := (Kd.S_reads' HO355.out).1; omega))
    obtain ⟨ve357_5, rfl, ge357_5⟩ := k41_openM hMe357
    have hv357_5 := hcc357 5 _ rfl
    rw [add_field _ _ 5 (by omega)] at hv357_5
    replace hv357_5 := Option.some.inj (hv357_5.symm.trans hx357_5)
    rw [hv357_5] at ge357_5
    have HL357_5 := Aside0.mk (show Kd.R k56 56 _ _ _ _ ((rd_T41 t352 0).f5) from ge357_5)
    clear hv357_5 ge357_5
    clear hcc357 hce357
    have qi357 : (0 < t352.length) = True := eq_true (by omega)
    (try rw [show ((0 : Int)).toNat = 0 from rfl] at hx357_0)
    (try rw [show 0 * 6 = 0 from rfl] at hx357_0)
    (try rw [Addr.add_zero'] at hx357_0)
    (try rw [show ((0 : Int)).toNat = 0 from rfl] at hx357_1)
    (try rw [show 0 * 6 = 0 from rfl] at hx357_1)
    (try rw [Addr.add_zero'] at hx357_1)
    (try rw [show ((0 : Int)).toNat = 0 from rfl] at hx357_2)
    (try rw [show 0 * 6 = 0 from rfl] at hx357_2)
    (try rw [Addr.add_zero'] at hx357_2)
    (try rw [show ((0 : Int)).toNat = 0 from rfl] at hx357_3)
    (try rw [show 0 * 6 = 0 from rfl] at hx357_3)
    (try rw [Addr.add_zero'] at hx357_3)
    (try rw [show ((0 : Int)).toNat = 0 from rfl] at hx357_4)
    (try rw [show 0 * 6 = 0 from rfl] at hx357_4)
    (try rw [Addr.add_zero'] at hx357_4)
    (try rw [show ((0 : Int)).toNat = 0 from rfl] at hx357_5)
    (try rw [show 0 * 6 = 0 from rfl] at hx357_5)
    (try rw [Addr.add_zero'] at hx357_5)
    have HR357_5 := Aside0.mk hi357_5
    have HC357_5 := Aside0.mk hl357_5
    clear hi357_5 hl357_5
    replace p357 := eq_true p357
    replace q357 := eq_true q357
    go_wp2
    go_meet
    case rel => exact ⟨_, (true), eqNow, H', ⟨by first | omega | exact Nat.le_refl _⟩, ⟨kdMv HO355⟩, ⟨belNow⟩⟩
   replace H := itEn H
   rcases H with ⟨c16, -, -, H⟩ | ⟨-, c16b0, c16b1, H⟩
   ·first | exact absurd H (by simp) | (rw [selvagelaw10_works.j0_dead] at H; exact absurd H (by simp))
   replace H := itEn H
   rcases H with ⟨c17, -, -, H⟩ | ⟨-, c17b0, c17b1, H⟩
   ·first | exact absurd H (by simp) | (rw [selvagelaw10_works.j0_dead] at H; exact absurd H (by simp))
   replace H := itLn H
   rcases H with ⟨c18, -, H⟩ | ⟨c18, c18b0, H⟩
   ·first | exact absurd H (by simp) | (rw [selvagelaw10_works.j0_dead] at H; exact absurd H (by simp))
   have c18b1 : decide (1 < ((rd_T41 t352 0).f5).length) = true := decide_eq_true (by omega)
   clear c18
   have H' := Aside0.mk H
   clear H
   obtain ⟨Ao19, co19, eo19⟩ := Kd.S_slice HO355.out
   subst eo19
   have p357 : 0 ≤ (0 : Int) := (by omega)
   have q357 : 0 < (t352.length : Int) := ofDec
   obtain ⟨ad357, A357_5, c357_5, e357, hx357_0, hx357_1, hx357_2, hx357_3, hx357_4, hx357_5, hl357_5, hi357_5⟩ := at_T41 (Kd.S_reads' HO355.out).2.2 0 p357 q357
   cases e357
   obtain ⟨ce357, hce357, hMe357, hcc357⟩ := Kd.S_get HO355.out z41 0 p357 (by first | exact q357 | exact ofDec | (have e_ := (Kd.S_reads' HO355.out).1; omega))
   obtain ⟨ve357_5, rfl, ge357_5⟩ := k41_openM hMe357
   have hv357_5 := hcc357 5 _ rfl
   rw [add_field _ _ 5 (by omega)] at hv357_5
   replace hv357_5 := Option.some.inj (hv357_5.symm.trans hx357_5)
   rw [hv357_5] at ge357_5
   have HL357_5 := Aside0.mk (show Kd.R k56 56 _ _ _ _ ((rd_T41 t352 0).f5) from ge357_5)
   clear hv357_5 ge357_5
   clear hcc357 hce357
   have qi357 : (0 < t352.length) = True := eq_true (by omega)
   (try rw [show ((0 : Int)).toNat = 0 from rfl] at hx357_0)
   (try rw [show 0 * 6 = 0 from rfl] at hx357_0)
   (try rw [Addr.add_zero'] at hx357_0)
   (try rw [show ((0 : Int)).toNat = 0 from rfl] at hx357_1)
   (try rw [show 0 * 6 = 0 from rfl] at hx357_1)
   (try rw [Addr.add_zero'] at hx357_1)
   (try rw [show ((0 : Int)).toNat = 0 from rfl] at hx357_2)
   (try rw [show 0 * 6 = 0 from rfl] at hx357_2)
   (try rw [Addr.add_zero'] at hx357_2)
   (try rw [show ((0 : Int)).toNat = 0 from rfl] at hx357_3)
   (try rw [show 0 * 6 = 0 from rfl] at hx357_3)
   (try rw [Addr.add_zero'] at hx357_3)
   (try rw [show ((0 : Int)).toNat = 0 from rfl] at hx357_4)
   (try rw [show 0 * 6 = 0 from rfl] at hx357_4)
   (try rw [Addr.add_zero'] at hx357_4)
   (try rw [show ((0 : Int)).toNat = 0 from rfl] at hx357_5)
   (try rw [show 0 * 6 = 0 from rfl] at hx357_5)
   (try rw [Addr.add_zero'] at hx357_5)
   have HR357_5 := Aside0.mk hi357_5
   have HC357_5 := Aside0.mk hl357_5
   clear hi357_5 hl357_5
   replace p357 := eq_true p357
   replace q357 := eq_true q357
   have p358 : 0 ≤ (0 : Int) := (by omega)
   have q358 : 0 < (t352.length : Int) := ofDec
   obtain ⟨ad358, A358_5, c358_5, e358, hx358_0, hx358_1, hx358_2, hx358_3, hx358_4, hx358_5, hl358_5, hi358_5⟩ := at_T41 (Kd.S_reads' HO355.out).2.2 0 p358 q358
   obtain rfl : ad357 = ad358 := (by injection e358)
   obtain ⟨ce358, hce358, hMe358, hcc358⟩ := Kd.S_get HO355.out z41 0 p358 (by first | exact q358 | exact ofDec | (have e_ := (Kd.S_reads' HO355.out).1; omega))
   obtain ⟨ve358_5, rfl, ge358_5⟩ := k41_openM hMe358
   have hv358_5 := hcc358 5 _ rfl
   rw [add_field _ _ 5 (by omega)] at hv358_5
   replace hv358_5 := Option.some.inj (hv358_5.symm.trans hx358_5)
   rw [hv358_5] at ge358_5
   have HL358_5 := Aside0.mk (show Kd.R k56 56 _ _ _ _ ((rd_T41 t352 0).f5) from ge358_5)
   clear hv358_5 ge358_5
   clear hcc358 hce358
   have qi358 : (0 < t352.length) = True := eq_true (by omega)
   (try rw [show ((0 : Int)).toNat = 0 from rfl] at hx358_0)
   (try rw [show 0 * 6 = 0 from rfl] at hx358_0)
   (try rw [Addr.add_zero'] at hx358_0)
   (try rw [show ((0 : Int)).toNat = 0 from rfl] at hx358_1)
   (try rw [show 0 * 6 = 0 from rfl] at hx358_1)
   (try rw [Addr.add_zero'] at hx358_1)
   (try rw [show ((0 : Int)).toNat = 0 from rfl] at hx358_2)
   (try rw [show 0 * 6 = 0 from rfl] at hx358_2)
   (try rw [Addr.add_zero'] at hx358_2)
   (try rw [show ((0 : Int)).toNat = 0 from rfl] at hx358_3)
   (try rw [show 0 * 6 = 0 from rfl] at hx358_3)
   (try rw [Addr.add_zero'] at hx358_3)
   (try rw [show ((0 : Int)).toNat = 0 from rfl] at hx358_4)
   (try rw [show 0 * 6 = 0 from rfl] at hx358_4)
   (try rw [Addr.add_zero'] at hx358_4)
   (try rw [show ((0 : Int)).toNat = 0 from rfl] at hx358_5)
   (try rw [show 0 * 6 = 0 from rfl] at hx358_5)
   (try rw [Addr.add_zero'] at hx358_5)
   have HR358_5 := Aside0.mk hi358_5
   have HC358_5 := Aside0.mk hl358_5
   clear hi358_5 hl358_5
   replace p358 := eq_true p358
   replace q358 := eq_true q358
   have ea_ := Option.some.inj (hx357_5.symm.trans hx358_5)
   injection ea_ with ea_ en_ ec_
   subst ea_
   subst ec_
   clear en_
   have p359 : 0 ≤ (0 : Int) := (by omega)
   have q359 : 0 < (t352.length : Int) := ofDec
   obtain ⟨ad359, A359_5, c359_5, e359, hx359_0, hx359_1, hx359_2, hx359_3, hx359_4, hx359_5, hl359_5, hi359_5⟩ := at_T41 (Kd.S_reads' HO355.out).2.2 0 p359 q359
   obtain rfl : ad357 = ad359 := (by injection e359)
   obtain ⟨ce359, hce359, hMe359, hcc359⟩ := Kd.S_get HO355.out z41 0 p359 (by first | exact q359 | exact ofDec | (have e_ := (Kd.S_reads' HO355.out).1; omega))
   obtain ⟨ve359_5, rfl, ge359_5⟩ := k41_openM hMe359
   have hv359_5 := hcc359 5 _ rfl
   rw [add_field _ _ 5 (by omega)] at hv359_5
   replace hv359_5 := Option.some.inj (hv359_5.symm.trans hx359_5)
   rw [hv359_5] at ge359_5
   have HL359_5 := Aside0.mk (show Kd.R k56 56 _ _ _ _ ((rd_T41 t352 0).f5) from ge359_5)
   clear hv359_5 ge359_5
   clear hcc359 hce359
   have qi359 : (0 < t352.length) = True := eq_true (by omega)
   (try rw [show ((0 : Int)).toNat = 0 from rfl] at hx359_0)
   (try rw [show 0 * 6 = 0 from rfl] at hx359_0)
   (try rw [Addr.add_zero'] at hx359_0)
   (try rw [show ((0 : Int)).toNat = 0 from rfl] at hx359_1)
   (try rw [show 0 * 6 = 0 from rfl] at hx359_1)
   (try rw [Addr.add_zero'] at hx359_1)
   (try rw [show ((0 : Int)).toNat = 0 from rfl] at hx359_2)
   (try rw [show 0 * 6 = 0 from rfl] at hx359_2)
   (try rw [Addr.add_zero'] at hx359_2)
   (try rw [show ((0 : Int)).toNat = 0 from rfl] at hx359_3)
   (try rw [show 0 * 6 = 0 from rfl] at hx359_3)
   (try rw [Addr.add_zero'] at hx359_3)
   (try rw [show ((0 : Int)).toNat = 0 from rfl] at hx359_4)
   (try rw [show 0 * 6 = 0 from rfl] at hx359_4)
   (try rw [Addr.add_zero'] at hx359_4)
   (try rw [show ((0 : Int)).toNat = 0 from rfl] at hx359_5)
   (try rw [show 0 * 6 = 0 from rfl] at hx359_5)
   (try rw [Addr.add_zero'] at hx359_5)
   have HR359_5 := Aside0.mk hi359_5
   have HC359_5 := Aside0.mk hl359_5
   clear hi359_5 hl359_5
   replace p359 := eq_true p359
   replace q359 := eq_true q359
   have ea_ := Option.some.inj (hx357_5.symm.trans hx359_5)
   injection ea_ with ea_ en_ ec_
   subst ea_
   subst ec_
   clear en_
   have p360 : 0 ≤ (0 : Int) := (by omega)
   have q360 : 0 < (t352.length : Int) := ofDec
   obtain ⟨ad360, A360_5, c360_5, e360, hx360_0, hx360_1, hx360_2, hx360_3, hx360_4, hx360_5, hl360_5, hi360_5⟩ := at_T41 (Kd.S_reads' HO355.out).2.2 0 p360 q360
   obtain rfl : ad357 = ad360 := (by injection e360)
   obtain ⟨ce360, hce360, hMe360, hcc360⟩ := Kd.S_get HO355.out z41 0 p360 (by first | exact q360 | exact ofDec | (have e_ := (Kd.S_reads' HO355.out).1; omega))
   obtain ⟨ve360_5, rfl, ge360_5⟩ := k41_openM hMe360
   have hv360_5 := hcc360 5 _ rfl
   rw [add_field _ _ 5 (by omega)] at hv360_5
   replace hv360_5 := Option.some.inj (hv360_5.symm.trans hx360_5)
   rw [hv360_5] at ge360_5
   have HL360_5 := Aside0.mk (show Kd.R k56 56 _ _ _ _ ((rd_T41 t352 0).f5) from ge360_5)
   clear hv360_5 ge360_5
   clear hcc360 hce360
   have qi360 : (0 < t352.length) = True := eq_true (by omega)
   (try rw [show ((0 : Int)).toNat = 0 from rfl] at hx360_0)
   (try rw [show 0 * 6 = 0 from rfl] at hx360_0)
   (try rw [Addr.add_zero'] at hx360_0)
   (try rw [show ((0 : Int)).toNat = 0 from rfl] at hx360_1)
   (try rw [show 0 * 6 = 0 from rfl] at hx360_1)
   (try rw [Addr.add_zero'] at hx360_1)
   (try rw [show ((0 : Int)).toNat = 0 from rfl] at hx360_2)
   (try rw [show 0 * 6 = 0 from rfl] at hx360_2)
   (try rw [Addr.add_zero'] at hx360_2)
   (try rw [show ((0 : Int)).toNat = 0 from rfl] at hx360_3)
   (try rw [show 0 * 6 = 0 from rfl] at hx360_3)
   (try rw [Addr.add_zero'] at hx360_3)
   (try rw [show ((0 : Int)).toNat = 0 from rfl] at hx360_4)
   (try rw [show 0 * 6 = 0 from rfl] at hx360_4)
   (try rw [Addr.add_zero'] at hx360_4)
   (try rw [show ((0 : Int)).toNat = 0 from rfl] at hx360_5)
   (try rw [show 0 * 6 = 0 from rfl] at hx360_5)
   (try rw [Addr.add_zero'] at hx360_5)
   have HR360_5 := Aside0.mk hi360_5
   have HC360_5 := Aside0.mk hl360_5
   clear hi360_5 hl360_5
   replace p360 := eq_true p360
   replace q360 := eq_true q360
   have ea_ := Option.some.inj (hx357_5.symm.trans hx360_5)
   injection ea_ with ea_ en_ ec_
   subst ea_
   subst ec_
   clear en_
   have p361 : 0 ≤ (1 : Int) := (by omega)
   have q361 : 1 < (((rd_T41 t352 0).f5).length : Int) := ofDec
   obtain ⟨ad361, e361, hx361_0, hx361_1⟩ := at_T56 (by repeat (first | (with_reducible exact HR360_5.out) | (with_reducible refine Kd.C_alloc ?_ _) | (with_reducible refine Kd.C_drewN ?_ _) | (with_reducible refine Kd.C_drew ?_) | exact HR360_5.out)) 1 p361 q361
   cases e361
   (try simp only [show (1 : Int).toNat = 1 from rfl, Nat.reduceMul, Nat.reduceEqDiff, Go.Addr.add, ↓reduceIte] at hx361_0)
   (try simp only [show (1 : Int).toNat = 1 from rfl, Nat.reduceMul, Nat.reduceEqDiff, Go.Addr.add, ↓reduceIte] at hx361_1)
   have qi361 : (1 < ((rd_T41 t352 0).f5).length) = True := eq_true (by omega)
   (try rw [show ((1 : Int)).toNat = 1 from rfl] at hx361_0)
   (try rw [show 1 * 2 = 2 from rfl] at hx361_0)
   (try rw [show ((1 : Int)).toNat = 1 from rfl] at hx361_1)
   (try rw [show 1 * 2 = 2 from rfl] at hx361_1)
   replace p361 := eq_true p361
   replace q361 := eq_true q361
   go_wp2
   go_meet
   case rel => exact ⟨_, ((!(((rd_T56 ((rd_T41 t352 0).f5) 1).f0) == 2) || (!((((rd_T56 ((rd_T41 t352 0).f5) 1).f1).toList) == ([50, 10] : List UInt8))))), eqNow, H', ⟨by first | omega | exact Nat.le_refl _⟩, ⟨kdMv HO355⟩, ⟨belNow⟩⟩
  have H1 : (selvagelaw10_works.j0 k t352 true) = some r := by rw [if_neg (show ¬ (some q356).isNone = true by simp)] at H; exact H
  clear H
  have H := H1
  clear H1
  try simp only [errW_none, errW_some]
  have H' := Aside0.mk H
  clear H
  go_wp2
  go_meet
  case rel => exact ⟨_, (true), eqNow, H', ⟨by first | omega | exact Nat.le_refl _⟩, ⟨kdMv HO355⟩, ⟨belNow⟩⟩
 case rest =>
  clear HC2
  try clear c4
  obtain ⟨kq, x53_1, rfl, HA, HJ1, HO_3, HB⟩ := hcut
  cases kq with
  | zero => exact absurd HA.out (by simp [selvagelaw10_works.j0])
  | succ kj1 =>
   have H := HA.out
   clear HA
   simp only [selvagelaw10_works.j0] at H
   by_cases c24 : x53_1 = true
   ·rw [if_pos c24] at H
    exact absurd H (by simp)
   replace c24 := Bool.eq_false_iff.mpr c24
   subst c24
   have H1 : (if 0 < (t352.length : Int) then ((hunks_Valid.f ((rd_T41 t352 0).f0) ((rd_T41 t352 0).f1) ((rd_T41 t352 0).f2) ((rd_T41 t352 0).f3) ((rd_T41 t352 0).f4) ((rd_T41 t352 0).f5)).bind fun t363 => (if t363.isNone = true then ((hunks_Valid.f 0 0 0 0 (⟨#[]⟩ : ByteArray) ([] : List (S56))).bind fun t365 => ((selvagelaw10_num.f t365).bind fun t366 => (if t366 = 100 then ((hunks_Order.f kj1 t352).bind fun t367 => (if t367.isNone = true then ((hunks_Head.f kj1 (([(⟨#[102, 32, 123, 10]⟩ : ByteArray)] : List ByteArray)) 1).bind fun t372 => (some (t372.toList == ([102, 32, 123] : List UInt8)))) else (none))) else (none)))) else (none))) else (none)) = some r := by rw [if_neg (show ¬ (false = true) by decide)] at H; exact H
   clear H
   have H := H1
   clear H1
   replace H := itLn H
   rcases H with ⟨_, _, H⟩ | ⟨c25, c25b0, H⟩
   ·cases H
   have c25b1 : decide (0 < t352.length) = true := decide_eq_true (by omega)
   clear c25
   replace H := bdS H
   obtain ⟨t363, A26, H⟩ := H
   rcases t363 with _ | q364
   ·have H1 : ((hunks_Valid.f 0 0 0 0 (⟨#[]⟩ : ByteArray) ([] : List (S56))).bind fun t365 => ((selvagelaw10_num.f t365).bind fun t366 => (if t366 = 100 then ((hunks_Order.f kj1 t352).bind fun t367 => (if t367.isNone = true then ((hunks_Head.f kj1 (([(⟨#[102, 32, 123, 10]⟩ : ByteArray)] : List ByteArray)) 1).bind fun t372 => (some (t372.toList == ([102, 32, 123] : List UInt8)))) else (none))) else (none)))) = some r := by rw [if_pos (show (none : Option Int).isNone = true by rfl)] at H; exact H
    clear H
    have H := H1
    clear H1
    try simp only [errW_none, errW_some]
    replace H := bdS H
    obtain ⟨t365, A27, H⟩ := H
    replace H := bdS H
    obtain ⟨t366, A28, H⟩ := H
    replace H := itEn H
    rcases H with ⟨_, _, _, H⟩ | ⟨-, c29b0, c29b1, H⟩
    ·cases H
    replace H := bdS H
    obtain ⟨t367, A30, H⟩ := H
    rcases t367 with _ | q368
    ·have H1 : ((hunks_Head.f kj1 (([(⟨#[102, 32, 123, 10]⟩ : ByteArray)] : List ByteArray)) 1).bind fun t372 => (some (t372.toList == ([102, 32, 123] : List UInt8)))) = some r := by rw [if_pos (show (none : Option Int).isNone = true by rfl)] at H; exact H
     clear H
     have H := H1
     clear H1
     try simp only [errW_none, errW_some]
     obtain ⟨y369, hy369⟩ : ∃ y_ : List ByteArray, y_ = (([(⟨#[102, 32, 123, 10]⟩ : ByteArray)] : List ByteArray)) := ⟨_, rfl⟩
     replace H : ((hunks_Head.f kj1 y369 1).bind fun t372 => (some (t372.toList == ([102, 32, 123] : List UInt8)))) = some r := by first | (rw [hy369]; with_reducible exact H) | (have H2_ := (Option.bind_some _ _).symm.trans H; rw [hy369]; with_reducible exact H2_) | (have H2_ := (Option.bind_some _ _).symm.trans H; with_reducible exact H2_) | with_reducible exact H | (rw [hy369]; exact H) | exact H
     have Ny369 := Aside0.mk hy369
     clear hy369
     replace H := bdS H
     obtain ⟨t372, A31, H⟩ := H
     obtain rfl := Option.some.inj H
     obtain ⟨Ao32, co32, eo32⟩ := Kd.S_slice HO_3.out
     subst eo32
     have p362 : 0 ≤ (0 : Int) := (by omega)
     have q362 : 0 < (t352.length : Int) := ofDec
     obtain ⟨ad362, A362_5, c362_5, e362, hx362_0, hx362_1, hx362_2, hx362_3, hx362_4, hx362_5, hl362_5, hi362_5⟩ := at_T41 (Kd.S_reads' HO_3.out).2.2 0 p362 q362
     cases e362
     obtain ⟨ce362, hce362, hMe362, hcc362⟩ := Kd.S_get HO_3.out z41 0 p362 (by first | exact q362 | exact ofDec | (have e_ := (Kd.S_reads' HO_3.out).1; omega))
     obtain ⟨ve362_5, rfl, ge362_5⟩ := k41_openM hMe362
     have hv362_5 := hcc362 5 _ rfl
     rw [add_field _ _ 5 (by omega)] at hv362_5
     replace hv362_5 := Option.some.inj (hv362_5.symm.trans hx362_5)
     rw [hv362_5] at ge362_5
     have HL362_5 := Aside0.mk (show Kd.R k56 56 _ _ _ _ ((rd_T41 t352 0).f5) from ge362_5)
     clear hv362_5 ge362_5
     clear hcc362 hce362
     have qi362 : (0 < t352.length) = True := eq_true (by omega)
     (try rw [show ((0 : Int)).toNat = 0 from rfl] at hx362_0)
     (try rw [show 0 * 6 = 0 from rfl] at hx362_0)
     (try rw [Addr.add_zero'] at hx362_0)
     (try rw [show ((0 : Int)).toNat = 0 from rfl] at hx362_1)
     (try rw [show 0 * 6 = 0 from rfl] at hx362_1)
     (try rw [Addr.add_zero'] at hx362_1)
     (try rw [show ((0 : Int)).toNat = 0 from rfl] at hx362_2)
     (try rw [show 0 * 6 = 0 from rfl] at hx362_2)
     (try rw [Addr.add_zero'] at hx362_2)
     (try rw [show ((0 : Int)).toNat = 0 from rfl] at hx362_3)
     (try rw [show 0 * 6 = 0 from rfl] at hx362_3)
     (try rw [Addr.add_zero'] at hx362_3)
     (try rw [show ((0 : Int)).toNat = 0 from rfl] at hx362_4)
     (try rw [show 0 * 6 = 0 from rfl] at hx362_4)
     (try rw [Addr.add_zero'] at hx362_4)
     (try rw [show ((0 : Int)).toNat = 0 from rfl] at hx362_5)
     (try rw [show 0 * 6 = 0 from rfl] at hx362_5)
     (try rw [Addr.add_zero'] at hx362_5)
     have HR362_5 := Aside0.mk hi362_5
     have HC362_5 := Aside0.mk hl362_5
     clear hi362_5 hl362_5
     replace p362 := eq_true p362
     replace q362 := eq_true q362
     go_wp2_with (first | ((with_reducible refine gate_callee (f := 24) rfl ?_); refine goL (some 57) Tryd.func24 #[.agg #[.int .i64 ((rd_T41 t352 0).f0), .int .i64 ((rd_T41 t352 0).f1), .int .i64 ((rd_T41 t352 0).f2), .int .i64 ((rd_T41 t352 0).f3), .string ((rd_T41 t352 0).f4), .slice A362_5 ((rd_T41 t352 0).f5).length c362_5]] ?_; (with_reducible refine (hunks_Valid.calls ((rd_T41 t352 0).f0) ((rd_T41 t352 0).f1) ((rd_T41 t352 0).f2) ((rd_T41 t352 0).f3) ((rd_T41 t352 0).f4) _ _ ((rd_T41 t352 0).f5) none _ ?side1 ?side2 A26.out).mono ?_); (case side1 => repeat (first | exact (by repeat (first | (with_reducible exact HR362_5.out) | (with_reducible refine Kd.C_alloc ?_ _) | (with_reducible refine Kd.C_drewN ?_ _) | (with_reducible refine Kd.C_drew ?_) | exact HR362_5.out)) | (with_reducible refine Kd.C_alloc ?_ _) | (with_reducible refine Kd.C_drewN ?_ _) | (with_reducible refine Kd.C_drew ?_))); (case side2 => exact HC362_5.out); rintro e w33 ⟨rfl, hb⟩; refine ⟨_, rfl, ?_⟩; replace HO_3 := Aside0.mk (Kd.S_below (by (with_reducible repeat (first | apply Kd.S_alloc | apply Kd.S_drewN | apply Kd.S_drew)); exact HO_3.out) hb); replace HL362_5 := Aside0.mk (Kd.R_below (by (with_reducible repeat (first | apply Kd.R_alloc | apply Kd.R_drewN | apply Kd.R_drew)); exact HL362_5.out) hb); replace HR362_5 := Aside0.mk (Kd.C_below (by repeat (first | (with_reducible exact HR362_5.out) | (with_reducible refine Kd.C_alloc ?_ _) | (with_reducible refine Kd.C_drewN ?_ _) | (with_reducible refine Kd.C_drew ?_) | exact HR362_5.out)) hb); replace HB := hbD HB hb; clear hb; (try simp only [errW_none, errW_some])) | (go_at_call 24; (refine (hunks_Valid.calls 0 0 0 0 (⟨#[]⟩ : ByteArray) _ _ ([] : List (S56)) t365 _ ?side1 ?side2 A27.out).mono ?_); (case side1 => exact Kd.C_nil _ _); (case side2 => exact Nat.le_refl _); rintro e w34 ⟨rfl, hb⟩; replace HO_3 := Aside0.mk (Kd.S_below (by (with_reducible repeat (first | apply Kd.S_alloc | apply Kd.S_drewN | apply Kd.S_drew)); exact HO_3.out) hb); replace HL362_5 := Aside0.mk (Kd.R_below (by (with_reducible repeat (first | apply Kd.R_alloc | apply Kd.R_drewN | apply Kd.R_drew)); exact HL362_5.out) hb); replace HR362_5 := Aside0.mk (Kd.C_below (by repeat (first | (with_reducible exact HR362_5.out) | (with_reducible refine Kd.C_alloc ?_ _) | (with_reducible refine Kd.C_drewN ?_ _) | (with_reducible refine Kd.C_drew ?_) | exact HR362_5.out)) hb); replace HB := hbD HB hb; clear hb; (try simp only [errW_none, errW_some]); have CA28 := fun W (hG_ : Glob W) => selvagelaw10_num.calls t365 t366 W hG_ A28.out; try simp only [errW_none, errW_some] at CA28) | (go_at_call 25; (with_reducible refine (CA28 _ ?side1).mono ?_); (case side1 => exact Glob.below hGL belNow); rintro e w35 ⟨rfl, hb⟩; replace HO_3 := Aside0.mk (Kd.S_below (by (with_reducible repeat (first | apply Kd.S_alloc | apply Kd.S_drewN | apply Kd.S_drew)); exact HO_3.out) hb); replace HL362_5 := Aside0.mk (Kd.R_below (by (with_reducible repeat (first | apply Kd.R_alloc | apply Kd.R_drewN | apply Kd.R_drew)); exact HL362_5.out) hb); replace HR362_5 := Aside0.mk (Kd.C_below (by repeat (first | (with_reducible exact HR362_5.out) | (with_reducible refine Kd.C_alloc ?_ _) | (with_reducible refine Kd.C_drewN ?_ _) | (with_reducible refine Kd.C_drew ?_) | exact HR362_5.out)) hb); replace HB := hbD HB hb; clear hb) | (go_at_call 18; (with_reducible refine (hunks_Order.calls kj1 _ _ t352 none _ ?side1 ?side2 A30.out).mono ?_); (case side1 => repeat (first | exact (Kd.S_reads' HO_3.out).2.2 | (with_reducible refine Kd.C_alloc ?_ _) | (with_reducible refine Kd.C_drewN ?_ _) | (with_reducible refine Kd.C_drew ?_))); (case side2 => exact (Kd.S_reads' HO_3.out).2.1); rintro e w36 ⟨rfl, hb⟩; replace HO_3 := Aside0.mk (Kd.S_below (by (with_reducible repeat (first | apply Kd.S_alloc | apply Kd.S_drewN | apply Kd.S_drew)); exact HO_3.out) hb); replace HL362_5 := Aside0.mk (Kd.R_below (by (with_reducible repeat (first | apply Kd.R_alloc | apply Kd.R_drewN | apply Kd.R_drew)); exact HL362_5.out) hb); replace HR362_5 := Aside0.mk (Kd.C_below (by repeat (first | (with_reducible exact HR362_5.out) | (with_reducible refine Kd.C_alloc ?_ _) | (with_reducible refine Kd.C_drewN ?_ _) | (with_reducible refine Kd.C_drew ?_) | exact HR362_5.out)) hb); replace HB := hbD HB hb; clear hb; (try simp only [errW_none, errW_some])) | ((with_reducible refine gate_dst (N := 71) rfl ?_); (try (refine gate_guard (by rfl) ?_; dsimp only)); refine Kd.R_lit Kd.string _ 9 ?hg (N := 71) ?hd (xs := ([(⟨#[102, 32, 123, 10]⟩ : ByteArray)] : List ByteArray)) (inner := [.string (⟨#[102, 32, 123, 10]⟩ : ByteArray)]) (ok := fun _ => True) (okp := fun _ => True) ?hr ?hp (fun _ hk => hk) trivial (Below.refl _ _) (Nat.le_refl _) (by simp) ?_; (case hd => rfl); (case hg => rfl); (case hr => first | (go_simp; done) | (go_simp; rfl)); (case hp => exact (Reps.one (show Kd.M Kd.string _ _ _ (⟨#[102, 32, 123, 10]⟩ : ByteArray) [.string (⟨#[102, 32, 123, 10]⟩ : ByteArray)] from rfl) (Reps.none _ _))); intro v370 w37 ho38 hb hg_ hnew_; clear hg_ hnew_; (first | rw [← Ny369.out] at ho38 | (simp only [Int.reduceToNat] at ho38; rw [← Ny369.out] at ho38)); replace HO_3 := Aside0.mk (Kd.S_below (by (with_reducible repeat (first | apply Kd.S_alloc | apply Kd.S_drewN | apply Kd.S_drew)); exact HO_3.out) hb); replace HL362_5 := Aside0.mk (Kd.R_below (by (with_reducible repeat (first | apply Kd.R_alloc | apply Kd.R_drewN | apply Kd.R_drew)); exact HL362_5.out) hb); have HO371 := Aside0.mk (Kd.R_lower ho38 (below_size belNow)); replace HR362_5 := Aside0.mk (Kd.C_below (by repeat (first | (with_reducible exact HR362_5.out) | (with_reducible refine Kd.C_alloc ?_ _) | (with_reducible refine Kd.C_drewN ?_ _) | (with_reducible refine Kd.C_drew ?_) | exact HR362_5.out)) hb); replace HB := hbD HB hb; clear hb ho38; obtain ⟨Ao39, co39, eo39⟩ := Kd.R_slice HO371.out; subst eo39) | (go_at_call 26; (with_reducible refine (hunks_Head.calls kj1 _ _ y369 1 t372 _ ?side1 ?side2 ?side3 A31.out).mono ?_); (case side1 => repeat (first | exact (Kd.R_reads' HO371.out).2.2 | (with_reducible refine Kd.C_alloc ?_ _) | (with_reducible refine Kd.C_drewN ?_ _) | (with_reducible refine Kd.C_drew ?_))); (case side2 => exact (Kd.R_reads' HO371.out).2.1); (case side3 => exact Glob.below hGL belNow); rintro e w40 ⟨rfl, hb⟩; replace HO_3 := Aside0.mk (Kd.S_below (by (with_reducible repeat (first | apply Kd.S_alloc | apply Kd.S_drewN | apply Kd.S_drew)); exact HO_3.out) hb); replace HL362_5 := Aside0.mk (Kd.R_below (by (with_reducible repeat (first | apply Kd.R_alloc | apply Kd.R_drewN | apply Kd.R_drew)); exact HL362_5.out) hb); replace HO371 := Aside0.mk (Kd.R_below (kdUp HO371.out) hb); replace HR362_5 := Aside0.mk (Kd.C_below (by repeat (first | (with_reducible exact HR362_5.out) | (with_reducible refine Kd.C_alloc ?_ _) | (with_reducible refine Kd.C_drewN ?_ _) | (with_reducible refine Kd.C_drew ?_) | exact HR362_5.out)) hb); replace HB := hbD HB hb; clear hb))
     go_ret
     exact ⟨eqEnd, belNow⟩
    have H1 : (none) = some r := by rw [if_neg (show ¬ (some q368).isNone = true by simp)] at H; exact H
    exact absurd H1 (by simp)
   have H1 : (none) = some r := by rw [if_neg (show ¬ (some q364).isNone = true by simp)] at H; exact H
   exact absurd H1 (by simp)
end Go.Proofs.YtecjoofjiockkaaDoor.Pp
