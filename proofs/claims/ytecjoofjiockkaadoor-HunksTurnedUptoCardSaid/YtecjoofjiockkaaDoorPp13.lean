import Derived.Test.YtecjoofjiockkaaDoorESt
import Derived.Test.YtecjoofjiockkaaDoorPp0
import Derived.Test.YtecjoofjiockkaaDoorPp12
set_option linter.unusedSimpArgs false
namespace Go.Proofs.YtecjoofjiockkaaDoor.Pp
open Go.RowKit Go.Proofs.YtecjoofjiockkaaDoor.Ext Go.Proofs.YtecjoofjiockkaaDoorW.PrintWords Go.Proofs.YtecjoofjiockkaaDoorW.PrintLast Go.Proofs.YtecjoofjiockkaaDoorW.PrintMore
attribute [local go_sem] max2_int min2_int max_two min_two max_three min_three max_four min_four
def edits_Normal.l0 : Nat → List (S53) → List (S53) → Int → Int → Option ((List (S53)) × Option Int)
 | 0, _, _, _, _ => none
 | k + 1, x9, x20, x21, x22 => if x22 < x21 then (if 0 ≤ x22 then (if x22 < (x20.length : Int) then (if (wrap64 ((x9.length : Int) - 1)) ≥ 0 then (if 0 ≤ (wrap64 ((x9.length : Int) - 1)) then (if (wrap64 ((x9.length : Int) - 1)) < (x9.length : Int) then (if (wrap64 (((rd_T53 x9 (wrap64 ((x9.length : Int) - 1))).f0) + ((rd_T53 x9 (wrap64 ((x9.length : Int) - 1))).f1))) = ((rd_T53 x20 x22).f0) then ((some (x9.set ((wrap64 ((x9.length : Int) - 1)) : Int).toNat (⟨(rd_T53 x9 (wrap64 ((x9.length : Int) - 1))).f0, wrap64 (((rd_T53 x9 (wrap64 ((x9.length : Int) - 1))).f1) + ((rd_T53 x20 x22).f1)), (rd_T53 x9 (wrap64 ((x9.length : Int) - 1))).f2, (rd_T53 x9 (wrap64 ((x9.length : Int) - 1))).f3⟩ : S53) : List (S53))).bind fun y244 => (edits_Normal.l0 k (y244.set ((wrap64 ((x9.length : Int) - 1)) : Int).toNat (⟨(rd_T53 y244 (wrap64 ((x9.length : Int) - 1))).f0, (rd_T53 y244 (wrap64 ((x9.length : Int) - 1))).f1, (rd_T53 y244 (wrap64 ((x9.length : Int) - 1))).f2, wrap64 (((rd_T53 y244 (wrap64 ((x9.length : Int) - 1))).f3) + ((rd_T53 x20 x22).f3))⟩ : S53)) x20 x21 (wrap64 (x22 + 1)))) else (if x9.length < 4398046511104 then (edits_Normal.l0 k (x9 ++ [(⟨(rd_T53 x20 x22).f0, (rd_T53 x20 x22).f1, (rd_T53 x20 x22).f2, (rd_T53 x20 x22).f3⟩ : S53)]) x20 x21 (wrap64 (x22 + 1))) else (none))) else (none)) else (none)) else (if x9.length < 4398046511104 then (edits_Normal.l0 k (x9 ++ [(⟨(rd_T53 x20 x22).f0, (rd_T53 x20 x22).f1, (rd_T53 x20 x22).f2, (rd_T53 x20 x22).f3⟩ : S53)]) x20 x21 (wrap64 (x22 + 1))) else (none))) else (none)) else (none)) else (some (x9, none))
def edits_Normal.f (k : Nat) (l0 : List (S53)) (a1 : Int) (a2 : Int) : Option ((List (S53)) × Option Int) := (edits_Valid.f k l0 a1 a2).bind fun t237 => (if t237.isNone = true then (edits_Normal.l0 k ([] : List (S53)) l0 (l0.length : Int) 0) else (some (([] : List (S53)), some (t237.getD 0))))
theorem edits_Normal.mono_l : ∀ k, (∀ y0 y1 y2 y3, LeO (edits_Normal.l0 k y0 y1 y2 y3) (edits_Normal.l0 (k + 1) y0 y1 y2 y3))
 | 0 => fun _ _ _ _ r h => by simp [edits_Normal.l0] at h
 | k + 1 => by
  have ih0 := edits_Normal.mono_l k
  ·intro y0 y1 y2 y3
   unfold edits_Normal.l0
   repeat' first
   | (with_reducible exact ih0 _ _ _ _)
   | (with_reducible exact edits_Valid.mono _ _ _ _)
   | (with_reducible exact LeO.refl _)
   | (with_reducible exact LeO.none _)
   | (with_reducible refine LeO.ite ?_ ?_)
   | (with_reducible refine LeO.bind ?_ (fun _ => ?_))
   | exact ih0 _ _ _ _
   | exact edits_Valid.mono _ _ _ _
   | exact LeO.none _
   | refine LeO.ite ?_ ?_
   | refine LeO.bind ?_ (fun _ => ?_)
theorem edits_Normal.mono : ∀ a0 a1 a2 k, LeO (edits_Normal.f k a0 a1 a2) (edits_Normal.f (k + 1) a0 a1 a2) := by
 intro a0 a1 a2 k
 have ih0 := edits_Normal.mono_l k
 unfold edits_Normal.f
 repeat' first
   | (with_reducible exact ih0 _ _ _ _)
   | (with_reducible exact edits_Valid.mono _ _ _ _)
   | (with_reducible exact LeO.refl _)
   | (with_reducible exact LeO.none _)
   | (with_reducible refine LeO.ite ?_ ?_)
   | (with_reducible refine LeO.bind ?_ (fun _ => ?_))
   | exact ih0 _ _ _ _
   | exact edits_Valid.mono _ _ _ _
   | exact LeO.none _
   | refine LeO.ite ?_ ?_
   | refine LeO.bind ?_ (fun _ => ?_)
def edits_Normal.T9 : Bool × List (List Nat × List Nat) := (true, [([], []), ([0], [0]), ([1], [1]), ([2], [2]), ([2], [2]), ([3, 4, 2], [2, 3, 4]), ([5, 2], [2, 5]), ([6, 2], [2, 6]), ([2], [2]), ([2], [2]), ([8, 9, 2], [2, 8, 9]), ([10, 2], [2, 10]), ([11, 2], [2, 11]), ([7, 12, 2], [2, 7, 12]), ([2], [2]), ([14, 2], [2, 14]), ([13, 15, 2], [2, 13, 15]), ([2, 16], [2, 16])])
def edits_Normal.B9 : List Nat := [0, 1, 3, 7, 7, 31, 63, 127, 7, 7, 775, 1799, 3847, 8191, 7, 16391, 65535, 131071]
theorem edits_Normal.tab9 : rtab .any (opsOf Tryd.f17 9) = edits_Normal.T9 := by kernel_rfl
theorem edits_Normal.bits9 : waitsOk edits_Normal.T9.2 edits_Normal.B9 = true := by kernel_rfl
def edits_Normal.T10 : Bool × List (List Nat × List Nat) := (true, [([], []), ([], []), ([0, 1], [0, 1]), ([2], [2]), ([3], [3]), ([], []), ([5], [5]), ([4, 6], [4, 6]), ([0, 1, 0, 1, 2, 3, 4, 5, 6, 7], [0, 1]), ([8, 0, 1, 2, 3, 4, 5, 6, 7], [8]), ([9, 7, 0, 1, 2, 3, 4, 5, 6, 7], [7, 9])])
def edits_Normal.B10 : List Nat := [0, 0, 3, 7, 15, 0, 32, 127, 255, 511, 1023]
theorem edits_Normal.tab10 : rtab .any (opsOf Tryd.f17 10) = edits_Normal.T10 := by kernel_rfl
theorem edits_Normal.bits10 : waitsOk edits_Normal.T10.2 edits_Normal.B10 = true := by kernel_rfl
def edits_Normal.T11 : Bool × List (List Nat × List Nat) := (true, [([], []), ([], []), ([0, 1], [0, 1]), ([2], [2]), ([3], [3]), ([], []), ([5], [5]), ([4, 6], [4, 6]), ([0, 1, 0, 1, 2, 3, 4, 5, 6, 7], [0, 1]), ([8, 0, 1, 2, 3, 4, 5, 6, 7], [8]), ([9, 7, 0, 1, 2, 3, 4, 5, 6, 7], [7, 9])])
def edits_Normal.B11 : List Nat := [0, 0, 3, 7, 15, 0, 32, 127, 255, 511, 1023]
theorem edits_Normal.tab11 : rtab .any (opsOf Tryd.f17 11) = edits_Normal.T11 := by kernel_rfl
theorem edits_Normal.bits11 : waitsOk edits_Normal.T11.2 edits_Normal.B11 = true := by kernel_rfl
set_option maxHeartbeats 80000000 in
set_option maxRecDepth 100000 in
theorem edits_Normal.calls (k : Nat) (A0 : Option Addr) (c0 : Nat) (l0 : List (S53)) (a1 : Int) (a2 : Int) (r1 : List (S53)) (r2 : Option Int) (w : World) (hr0 : Kd.C k53 w A0 l0.length l0) (hc0 : l0.length ≤ c0) (h : edits_Normal.f k l0 a1 a2 = some (r1, r2)) :
  Calls Tryd.prog 17 #[.slice A0 l0.length c0, .int .i64 a1, .int .i64 a2] w fun e w' => ∃ v0_ : Value, e = .returned (.tuple #[v0_, errW r2]) ∧ Kd.R k53 53 w' w.heap.size (fun _ => True) v0_ r1 ∧ Below w.heap.size w w' := by
 have hu49 := Tryd.underlying53
 have hu25 := Tryd.underlying28
 have hu73 := Tryd.underlying57
 have HR0 := Aside0.mk hr0
 have HC0 := Aside0.mk hc0
 clear hr0 hc0
 have HB := Aside0.mk (Below.refl w.heap.size w)
 have H := h
 clear h
 unfold edits_Normal.f at H
 replace H := bdS H
 obtain ⟨t237, A4, H⟩ := H
 rcases t237 with _ | q238
 ·have H1 : (edits_Normal.l0 k ([] : List (S53)) l0 (l0.length : Int) 0) = some (r1, r2) := by rw [if_pos (show (none : Option Int).isNone = true by rfl)] at H; exact H
  clear H
  have H := H1
  clear H1
  try simp only [errW_none, errW_some]
  have H' := Aside0.mk H
  clear H
  go_enter Tryd.func17, Tryd.ntmps17
  try simp only [List.append_eq, List.cons_append, List.nil_append]
  go_wp2_with (first | ((with_reducible refine gate_callee (f := 33) rfl ?_); refine goL (some 16) Tryd.func33 #[.slice A0 l0.length c0, .int .i64 a1, .int .i64 a2] ?_; (with_reducible refine (edits_Valid.calls k _ _ l0 a1 a2 none _ ?side1 ?side2 A4.out).mono ?_); (case side1 => repeat (first | exact HR0.out | (with_reducible refine Kd.C_alloc ?_ _) | (with_reducible refine Kd.C_drewN ?_ _) | (with_reducible refine Kd.C_drew ?_))); (case side2 => exact HC0.out); rintro e w5 ⟨rfl, hb⟩; refine ⟨_, rfl, ?_⟩; replace HB := hbD HB hb; clear hb; (try simp only [errW_none, errW_some])))
  go_loopg [9, 22] k (fun kq v9 v22 w' => ∃ (x9_1 : List (S53)) (x22_1 : Int), v22 = .int .i64 x22_1 ∧ Aside0 (edits_Normal.l0 kq x9_1 l0 (l0.length : Int) x22_1 = some (r1, r2)) ∧ Aside0 (kq ≤ k) ∧ Aside0 (Kd.R k53 53 w' w.heap.size (fun _ => True) v9 x9_1) ∧ Aside0 (Below w.heap.size w w'))
  case atStart => exact ⟨(([] : List (S53))), (0), eqNow, H', ⟨Nat.le_refl _⟩, ⟨by first | exact Kd.R_nil _ _ _ _ _ | exact Kd.N_nil _ _ _ _ _ | exact Kd.V_nil _ _ _ _ _ | exact Kd.Q_nil _ _ _ _ _ | exact Kd.S_nil _ _ _ _ _⟩, ⟨belNow⟩⟩
  case round =>
   clear H'
   try clear q238
   obtain ⟨x9_1, x22_1, rfl, HA, HK1, HO_9, HB⟩ := hrel
   cases gk with
   | zero => exact absurd HA.out (by simp [edits_Normal.l0])
   | succ k1 =>
    have H := HA.out
    clear HA
    simp only [edits_Normal.l0] at H
    replace H := itLn H
    rcases H with ⟨-, c6b0, H⟩ | ⟨-, c6b0, H⟩
    ·simp only [Option.some.injEq, Prod.mk.injEq] at H
     obtain ⟨rfl, rfl⟩ := H
     go_wp2
     go_ret2
     exact ⟨_, eqEnd, by (with_reducible repeat (first | apply Kd.R_alloc | apply Kd.R_drewN | apply Kd.R_drew)); exact HO_9.out, belNow⟩
    replace H := itLn H
    rcases H with ⟨_, _, H⟩ | ⟨-, c7b0, H⟩
    ·cases H
    replace H := itLn H
    rcases H with ⟨_, _, H⟩ | ⟨-, c8b0, H⟩
    ·cases H
    replace H := itHn H
    rcases H with ⟨-, c9b0, H⟩ | ⟨-, c9b0, H⟩
    ·replace H := itLn H
     rcases H with ⟨_, _, H⟩ | ⟨c34, -, H⟩
     ·cases H
     have LMc34 := Aside0.mk c34
     clear c34
     obtain ⟨y250, hy250⟩ : ∃ y_ : List (S53), y_ = (x9_1 ++ [(⟨(rd_T53 l0 x22_1).f0, (rd_T53 l0 x22_1).f1, (rd_T53 l0 x22_1).f2, (rd_T53 l0 x22_1).f3⟩ : S53)]) := ⟨_, rfl⟩
     replace H : (edits_Normal.l0 k1 y250 l0 (l0.length : Int) (wrap64 (x22_1 + 1))) = some (r1, r2) := by first | (rw [hy250]; with_reducible exact H) | (have H2_ := (Option.bind_some _ _).symm.trans H; rw [hy250]; with_reducible exact H2_) | (have H2_ := (Option.bind_some _ _).symm.trans H; with_reducible exact H2_) | with_reducible exact H | (rw [hy250]; exact H) | exact H
     have Ny250 := Aside0.mk hy250
     clear hy250
     have H' := Aside0.mk H
     clear H
     obtain ⟨ad239, rfl, hx239_0, hx239_1, hx239_2, hx239_3, p239, q239⟩ := atU_T53 HR0 HB x22_1
     try go_wp2_with (first | ((with_reducible refine gate_dst (N := 11) rfl ?_); refine boxEv (N := 11) #[.int .i64 0, .int .i64 0, .int .i64 0, .int .i64 0] 53 ?_; intro gb240 hg w35 hbox hb; replace HO_9 := Aside0.mk (Kd.R_below (Kd.R_elderB (kdUp HO_9.out) gb240 (Nat.le_of_eq hg.symm)) hb); have BK240 := Aside0.mk hbox; have GW240 := gwN HB hg; have GE240 := GW240; replace HB := hbD HB hb; clear hb hbox hg; obtain ⟨hcz36_0, hcz36_1, hcz36_2, hcz36_3, hfz36_0, hfz36_1, hfz36_2, hfz36_3⟩ := bcf4 (W := w35) BK240; obtain ⟨Ao37, co37, eo37⟩ := Kd.R_slice HO_9.out; subst eo37))
     generalize hW_ : ((((w35.setCell ⟨gb240, 0, none⟩ (.int .i64 ((rd_T53 l0 x22_1).f0))).setCell ⟨gb240, 1, none⟩ (.int .i64 ((rd_T53 l0 x22_1).f1))).setCell ⟨gb240, 2, none⟩ (.int .i64 ((rd_T53 l0 x22_1).f2))).setCell ⟨gb240, 3, none⟩ (.int .i64 ((rd_T53 l0 x22_1).f3))) = w38
     replace HO_9 : Aside0 (Kd.R k53 53 w38 w.heap.size (fun k_ => k_ ≠ gb240) (.slice Ao37 x9_1.length co37) x9_1) := ⟨by subst hW_; (with_reducible repeat (first | apply Kd.R_alloc | apply Kd.R_drewN | apply Kd.R_drew)); exact Kd.R_mono (Kd.R_far (p := ⟨gb240, 3, none⟩) (Kd.R_far (p := ⟨gb240, 2, none⟩) (Kd.R_far (p := ⟨gb240, 1, none⟩) (Kd.R_far (p := ⟨gb240, 0, none⟩) (Kd.R_mono HO_9.out (fun k_ hk => (⟨hk, hk.2⟩ : _ ∧ k_ ≠ gb240))) (fun _ hk => hk.2) (.int .i64 ((rd_T53 l0 x22_1).f0))) (fun _ hk => hk.2) (.int .i64 ((rd_T53 l0 x22_1).f1))) (fun _ hk => hk.2) (.int .i64 ((rd_T53 l0 x22_1).f2))) (fun _ hk => hk.2) (.int .i64 ((rd_T53 l0 x22_1).f3))) (fun _ hk => hk.1.2)⟩
     replace BK240 := bkG BK240 hW_
     replace HB := hbG HB hW_
     clear hW_
     replace HO_9 := Aside0.mk (Kd.R_drew HO_9.out)
     replace BK240 := Aside0.mk (blk_drew BK240.out)
     replace HB := Aside0.mk (below_drew1 HB.out)
     refine start_ (n := 18) (S := fun w' => True) (ds := []) (Array.replicate 18 false) (by kernel_rfl) rfl rfl trivial (fun hHeld => ?_); refine with_tabW edits_Normal.tab9 edits_Normal.bits9 (fun HT_ HW_ => ?_)
     generalize w38.drew = w39 at HO_9 BK240 HB hHeld ⊢
     refine pureT 0 ?_
     refine pureT 1 ?_
     refine pureT 2 ?_
     refine pureV 3 ?_
     refine pureV 4 ?_
     refine pureV 5 ?_
     refine pureV 6 ?_
     refine pureV 7 ?_
     refine pureV 8 ?_
     refine pureV 9 ?_
     refine pureV 10 ?_
     refine pureV 11 ?_
     refine pureV 12 ?_
     refine pureV 13 ?_
     refine pureV 14 ?_
     refine pureV 15 ?_
     refine pureV 16 ?_
     refine pureT 17 ?_
     refine done_ (done_of HT_.out (by kernel_rfl)) ?_
     have hcz40_0 := bkc (v := .int .i64 ((rd_T53 l0 x22_1).f0)) BK240.out 0 rfl
     have hcz40_1 := bkc (v := .int .i64 ((rd_T53 l0 x22_1).f1)) BK240.out 1 rfl
     have hcz40_2 := bkc (v := .int .i64 ((rd_T53 l0 x22_1).f2)) BK240.out 2 rfl
     have hcz40_3 := bkc (v := .int .i64 ((rd_T53 l0 x22_1).f3)) BK240.out 3 rfl
     have hfz40_0 := blk_frozen BK240.out 0
     have hfz40_1 := blk_frozen BK240.out 1
     have hfz40_2 := blk_frozen BK240.out 2
     have hfz40_3 := blk_frozen BK240.out 3
     try go_wp2_with (first | ((with_reducible refine gate_builtin (b := .append) (xs := #[.tmp 67, .tmp 69]) rfl ?_); at_builtin; refine Kd.R_append k53 (w0 := w) w.heap.size rfl (.tmp 67) (.tmp 69) 22 53 (.agg #[(.int .i64 0), (.int .i64 0), (.int .i64 0), (.int .i64 0)]) 32 rfl Tryd.underlying22 info53 rfl (by decide) (by omega) (.slice Ao37 x9_1.length co37) x9_1 (⟨(rd_T53 l0 x22_1).f0, (rd_T53 l0 x22_1).f1, (rd_T53 l0 x22_1).f2, (rd_T53 l0 x22_1).f3⟩ : S53) [.int .i64 ((rd_T53 l0 x22_1).f0), .int .i64 ((rd_T53 l0 x22_1).f1), .int .i64 ((rd_T53 l0 x22_1).f2), .int .i64 ((rd_T53 l0 x22_1).f3)] (fun k_ => k_ ≠ gb240) (fun _ => False) rfl rfl ?aP (fun _ hk => hk.elim) ?aF ?aO ?aB ?aS ?aL ?_; (case aP => exact k53_mkM _ _ _ (⟨(rd_T53 l0 x22_1).f0, (rd_T53 l0 x22_1).f1, (rd_T53 l0 x22_1).f2, (rd_T53 l0 x22_1).f3⟩ : S53)); (case aB => exact (belPut)); (case aF => exact (fun k_ hk => Kd.freshB (g := gb240) (o := .cells #[.int .i64 ((rd_T53 l0 x22_1).f0), .int .i64 ((rd_T53 l0 x22_1).f1), .int .i64 ((rd_T53 l0 x22_1).f2), .int .i64 ((rd_T53 l0 x22_1).f3)] 53 (0, 0)) (bkUp BK240.out) k_ hk)); (case aO => exact (kdUp HO_9.out)); (case aS => exact (below_size (belPut))); (case aL => have := LMc34.out; omega); intro v251 w41 ho hb hg hat; rw [← Ny250.out] at ho; replace BK240 := Aside0.mk (blk_grown (g := gb240) (o := .cells #[.int .i64 ((rd_T53 l0 x22_1).f0), .int .i64 ((rd_T53 l0 x22_1).f1), .int .i64 ((rd_T53 l0 x22_1).f2), .int .i64 ((rd_T53 l0 x22_1).f3)] 53 (0, 0)) (bkUp BK240.out) hg (Kd.R_away HO_9.out (fun _ hk => hk))); replace HB := Aside0.mk hb; have HO252 := Aside0.mk (ho); clear HO_9; clear ho hb hg hat))
     go_roundg k1
     case measure => have := HK1.out; omega
     case rel => exact ⟨(y250), (wrap64 (x22_1 + 1)), eqNow, H', ⟨by have := HK1.out; omega⟩, ⟨by (with_reducible repeat (first | apply Kd.R_alloc | apply Kd.R_drewN | apply Kd.R_drew)); exact Kd.R_mono HO252.out (fun _ hk => trivial)⟩, ⟨belPut⟩⟩
    obtain ⟨ji10, hji10⟩ : ∃ j_ : Int, (wrap64 ((x9_1.length : Int) - 1)) = j_ := ⟨_, rfl⟩
    first | rw [hji10] at H | simp only [hji10] at H
    (try rw [hji10] at c9b0)
    have hji10w : (IntKind.i64.wrap ((x9_1.length : Int) - 1)) = ji10 := (i64_w _).trans hji10
    replace H := itLn H
    rcases H with ⟨_, _, H⟩ | ⟨-, c11b0, H⟩
    ·cases H
    replace H := itLn H
    rcases H with ⟨_, _, H⟩ | ⟨-, c12b0, H⟩
    ·cases H
    replace H := itEn H
    rcases H with ⟨c13, c13b0, c13b1, H⟩ | ⟨-, c13b0, c13b1, H⟩
    ·replace H := itLn H
     rcases H with ⟨_, _, H⟩ | ⟨c26, -, H⟩
     ·cases H
     have LMc26 := Aside0.mk c26
     clear c26
     obtain ⟨y247, hy247⟩ : ∃ y_ : List (S53), y_ = (x9_1 ++ [(⟨(rd_T53 l0 x22_1).f0, (rd_T53 l0 x22_1).f1, (rd_T53 l0 x22_1).f2, (rd_T53 l0 x22_1).f3⟩ : S53)]) := ⟨_, rfl⟩
     replace H : (edits_Normal.l0 k1 y247 l0 (l0.length : Int) (wrap64 (x22_1 + 1))) = some (r1, r2) := by first | (rw [hy247]; with_reducible exact H) | (have H2_ := (Option.bind_some _ _).symm.trans H; rw [hy247]; with_reducible exact H2_) | (have H2_ := (Option.bind_some _ _).symm.trans H; with_reducible exact H2_) | with_reducible exact H | (rw [hy247]; exact H) | exact H
     have Ny247 := Aside0.mk hy247
     clear hy247
     have H' := Aside0.mk H
     clear H
     obtain ⟨ad239, rfl, hx239_0, hx239_1, hx239_2, hx239_3, p239, q239⟩ := atU_T53 HR0 HB x22_1
     try go_wp2_with (first | ((with_reducible refine gate_dst (N := 11) rfl ?_); refine boxEv (N := 11) #[.int .i64 0, .int .i64 0, .int .i64 0, .int .i64 0] 53 ?_; intro gb240 hg w27 hbox hb; replace HO_9 := Aside0.mk (Kd.R_below (Kd.R_elderB (kdUp HO_9.out) gb240 (Nat.le_of_eq hg.symm)) hb); have BK240 := Aside0.mk hbox; have GW240 := gwN HB hg; have GE240 := GW240; replace HB := hbD HB hb; clear hb hbox hg; obtain ⟨hcz28_0, hcz28_1, hcz28_2, hcz28_3, hfz28_0, hfz28_1, hfz28_2, hfz28_3⟩ := bcf4 (W := w27) BK240; obtain ⟨Ao29, co29, eo29⟩ := Kd.R_slice HO_9.out; subst eo29))
     generalize hW_ : ((((w27.setCell ⟨gb240, 0, none⟩ (.int .i64 ((rd_T53 l0 x22_1).f0))).setCell ⟨gb240, 1, none⟩ (.int .i64 ((rd_T53 l0 x22_1).f1))).setCell ⟨gb240, 2, none⟩ (.int .i64 ((rd_T53 l0 x22_1).f2))).setCell ⟨gb240, 3, none⟩ (.int .i64 ((rd_T53 l0 x22_1).f3))) = w30
     replace HO_9 : Aside0 (Kd.R k53 53 w30 w.heap.size (fun k_ => k_ ≠ gb240) (.slice Ao29 x9_1.length co29) x9_1) := ⟨by subst hW_; (with_reducible repeat (first | apply Kd.R_alloc | apply Kd.R_drewN | apply Kd.R_drew)); exact Kd.R_mono (Kd.R_far (p := ⟨gb240, 3, none⟩) (Kd.R_far (p := ⟨gb240, 2, none⟩) (Kd.R_far (p := ⟨gb240, 1, none⟩) (Kd.R_far (p := ⟨gb240, 0, none⟩) (Kd.R_mono HO_9.out (fun k_ hk => (⟨hk, hk.2⟩ : _ ∧ k_ ≠ gb240))) (fun _ hk => hk.2) (.int .i64 ((rd_T53 l0 x22_1).f0))) (fun _ hk => hk.2) (.int .i64 ((rd_T53 l0 x22_1).f1))) (fun _ hk => hk.2) (.int .i64 ((rd_T53 l0 x22_1).f2))) (fun _ hk => hk.2) (.int .i64 ((rd_T53 l0 x22_1).f3))) (fun _ hk => hk.1.2)⟩
     replace BK240 := bkG BK240 hW_
     replace HB := hbG HB hW_
     clear hW_
     replace HO_9 := Aside0.mk (Kd.R_drew HO_9.out)
     replace BK240 := Aside0.mk (blk_drew BK240.out)
     replace HB := Aside0.mk (below_drew1 HB.out)
     have p241 : 0 ≤ ((ji10) : Int) := ofDec
     have q241 : (ji10) < (x9_1.length : Int) := ofDec
     obtain ⟨ad241, e241, hx241_0, hx241_1, hx241_2, hx241_3⟩ := at_T53 (Kd.R_reads' HO_9.out).2.2 (ji10) p241 q241
     cases e241
     replace p241 := eq_true p241
     replace q241 := eq_true q241
     have p242 : 0 ≤ ((ji10) : Int) := ofDec
     have q242 : (ji10) < (x9_1.length : Int) := ofDec
     obtain ⟨ad242, e242, hx242_0, hx242_1, hx242_2, hx242_3⟩ := at_T53 (Kd.R_reads' HO_9.out).2.2 (ji10) p242 q242
     obtain rfl : ad241 = ad242 := (by injection e242)
     replace p242 := eq_true p242
     replace q242 := eq_true q242
     refine start_ (n := 18) (S := fun w' => w'.cell? ⟨gb240, 0, none⟩ = some (.int .i64 ((rd_T53 l0 x22_1).f0)) ∧ w'.cell? ⟨gb240, 1, none⟩ = some (.int .i64 ((rd_T53 l0 x22_1).f1)) ∧ w'.cell? ⟨gb240, 2, none⟩ = some (.int .i64 ((rd_T53 l0 x22_1).f2)) ∧ w'.cell? ⟨gb240, 3, none⟩ = some (.int .i64 ((rd_T53 l0 x22_1).f3)) ∧ w'.cell? (ad241.add (((ji10)).toNat * 4)) = some (.int .i64 ((rd_T53 x9_1 (ji10)).f0)) ∧ w'.cell? ⟨(ad241.add (((ji10)).toNat * 4)).block, (ad241.add (((ji10)).toNat * 4)).off + 1, none⟩ = some (.int .i64 ((rd_T53 x9_1 (ji10)).f1)) ∧ w'.cell? ⟨(ad241.add (((ji10)).toNat * 4)).block, (ad241.add (((ji10)).toNat * 4)).off + 2, none⟩ = some (.int .i64 ((rd_T53 x9_1 (ji10)).f2)) ∧ w'.cell? ⟨(ad241.add (((ji10)).toNat * 4)).block, (ad241.add (((ji10)).toNat * 4)).off + 3, none⟩ = some (.int .i64 ((rd_T53 x9_1 (ji10)).f3)) ∧ w'.cell? (ad241.add (((ji10)).toNat * 4)) = some (.int .i64 ((rd_T53 x9_1 (ji10)).f0)) ∧ w'.cell? ⟨(ad241.add (((ji10)).toNat * 4)).block, (ad241.add (((ji10)).toNat * 4)).off + 1, none⟩ = some (.int .i64 ((rd_T53 x9_1 (ji10)).f1)) ∧ w'.cell? ⟨(ad241.add (((ji10)).toNat * 4)).block, (ad241.add (((ji10)).toNat * 4)).off + 2, none⟩ = some (.int .i64 ((rd_T53 x9_1 (ji10)).f2)) ∧ w'.cell? ⟨(ad241.add (((ji10)).toNat * 4)).block, (ad241.add (((ji10)).toNat * 4)).off + 3, none⟩ = some (.int .i64 ((rd_T53 x9_1 (ji10)).f3))) (ds := []) (Array.replicate 18 false) (by kernel_rfl) rfl rfl ⟨bc BK240 0, bc BK240 1, bc BK240 2, bc BK240 3, hx241_0, hx241_1, hx241_2, hx241_3, hx242_0, hx242_1, hx242_2, hx242_3⟩ (fun hHeld => ?_); refine with_tabW edits_Normal.tab9 edits_Normal.bits9 (fun HT_ HW_ => ?_)
     generalize w30.drew = w31 at HO_9 BK240 HB hx241_0 hx241_1 hx241_2 hx241_3 hx242_0 hx242_1 hx242_2 hx242_3 hHeld ⊢
     refine pureT 0 ?_
     refine pureT 1 ?_
     refine pureT 2 ?_
     refine pureT 3 ?_
     refine pureT 4 ?_
     refine pureT 5 ?_
     refine pureT 6 ?_
     refine pureT 8 ?_
     refine pureT 9 ?_
     refine pureT 10 ?_
     refine pureT 11 ?_
     refine pureT 14 ?_
     refine takeT 7 hHeld ?_
     refine takeT 12 hHeld ?_
     refine pureT 13 ?_
     refine takeT 15 hHeld ?_
     refine pureT 16 ?_
     refine pureT 17 ?_
     refine done_ (done_of HT_.out (by kernel_rfl)) ?_
     have hcz32_0 := bkc (v := .int .i64 ((rd_T53 l0 x22_1).f0)) BK240.out 0 rfl
     have hcz32_1 := bkc (v := .int .i64 ((rd_T53 l0 x22_1).f1)) BK240.out 1 rfl
     have hcz32_2 := bkc (v := .int .i64 ((rd_T53 l0 x22_1).f2)) BK240.out 2 rfl
     have hcz32_3 := bkc (v := .int .i64 ((rd_T53 l0 x22_1).f3)) BK240.out 3 rfl
     have hfz32_0 := blk_frozen BK240.out 0
     have hfz32_1 := blk_frozen BK240.out 1
     have hfz32_2 := blk_frozen BK240.out 2
     have hfz32_3 := blk_frozen BK240.out 3
     try go_wp2_with (first | ((with_reducible refine gate_builtin (b := .append) (xs := #[.tmp 67, .tmp 69]) rfl ?_); at_builtin; refine Kd.R_append k53 (w0 := w) w.heap.size rfl (.tmp 67) (.tmp 69) 22 53 (.agg #[(.int .i64 0), (.int .i64 0), (.int .i64 0), (.int .i64 0)]) 32 rfl Tryd.underlying22 info53 rfl (by decide) (by omega) (.slice (some ad241) x9_1.length co29) x9_1 (⟨(rd_T53 l0 x22_1).f0, (rd_T53 l0 x22_1).f1, (rd_T53 l0 x22_1).f2, (rd_T53 l0 x22_1).f3⟩ : S53) [.int .i64 ((rd_T53 l0 x22_1).f0), .int .i64 ((rd_T53 l0 x22_1).f1), .int .i64 ((rd_T53 l0 x22_1).f2), .int .i64 ((rd_T53 l0 x22_1).f3)] (fun k_ => k_ ≠ gb240) (fun _ => False) rfl rfl ?aP (fun _ hk => hk.elim) ?aF ?aO ?aB ?aS ?aL ?_; (case aP => exact k53_mkM _ _ _ (⟨(rd_T53 l0 x22_1).f0, (rd_T53 l0 x22_1).f1, (rd_T53 l0 x22_1).f2, (rd_T53 l0 x22_1).f3⟩ : S53)); (case aB => exact (belPut)); (case aF => exact (fun k_ hk => Kd.freshB (g := gb240) (o := .cells #[.int .i64 ((rd_T53 l0 x22_1).f0), .int .i64 ((rd_T53 l0 x22_1).f1), .int .i64 ((rd_T53 l0 x22_1).f2), .int .i64 ((rd_T53 l0 x22_1).f3)] 53 (0, 0)) (bkUp BK240.out) k_ hk)); (case aO => exact (kdUp HO_9.out)); (case aS => exact (below_size (belPut))); (case aL => have := LMc26.out; omega); intro v248 w33 ho hb hg hat; rw [← Ny247.out] at ho; replace BK240 := Aside0.mk (blk_grown (g := gb240) (o := .cells #[.int .i64 ((rd_T53 l0 x22_1).f0), .int .i64 ((rd_T53 l0 x22_1).f1), .int .i64 ((rd_T53 l0 x22_1).f2), .int .i64 ((rd_T53 l0 x22_1).f3)] 53 (0, 0)) (bkUp BK240.out) hg (Kd.R_away HO_9.out (fun _ hk => hk))); replace HB := Aside0.mk hb; have HO249 := Aside0.mk (ho); clear HO_9; clear ho hb hg hat))
     go_roundg k1
     case measure => have := HK1.out; omega
     case rel => exact ⟨(y247), (wrap64 (x22_1 + 1)), eqNow, H', ⟨by have := HK1.out; omega⟩, ⟨by (with_reducible repeat (first | apply Kd.R_alloc | apply Kd.R_drewN | apply Kd.R_drew)); exact Kd.R_mono HO249.out (fun _ hk => trivial)⟩, ⟨belPut⟩⟩
    obtain ⟨y244, hy244⟩ : ∃ y_ : List (S53), y_ = (x9_1.set ((ji10) : Int).toNat (⟨(rd_T53 x9_1 (ji10)).f0, wrap64 (((rd_T53 x9_1 (ji10)).f1) + ((rd_T53 l0 x22_1).f1)), (rd_T53 x9_1 (ji10)).f2, (rd_T53 x9_1 (ji10)).f3⟩ : S53)) := ⟨_, rfl⟩
    replace H : (edits_Normal.l0 k1 (y244.set ((ji10) : Int).toNat (⟨(rd_T53 y244 (ji10)).f0, (rd_T53 y244 (ji10)).f1, (rd_T53 y244 (ji10)).f2, wrap64 (((rd_T53 y244 (ji10)).f3) + ((rd_T53 l0 x22_1).f3))⟩ : S53)) l0 (l0.length : Int) (wrap64 (x22_1 + 1))) = some (r1, r2) := by first | (rw [hy244]; with_reducible exact H) | (have H2_ := (Option.bind_some _ _).symm.trans H; rw [hy244]; with_reducible exact H2_) | (have H2_ := (Option.bind_some _ _).symm.trans H; with_reducible exact H2_) | with_reducible exact H | (rw [hy244]; exact H) | exact H
    have Ny244 := Aside0.mk hy244
    clear hy244
    obtain ⟨y246, hy246⟩ : ∃ y_ : List (S53), y_ = (y244.set ((ji10) : Int).toNat (⟨(rd_T53 y244 (ji10)).f0, (rd_T53 y244 (ji10)).f1, (rd_T53 y244 (ji10)).f2, wrap64 (((rd_T53 y244 (ji10)).f3) + ((rd_T53 l0 x22_1).f3))⟩ : S53)) := ⟨_, rfl⟩
    replace H : (edits_Normal.l0 k1 y246 l0 (l0.length : Int) (wrap64 (x22_1 + 1))) = some (r1, r2) := by first | (rw [hy246]; with_reducible exact H) | (have H2_ := (Option.bind_some _ _).symm.trans H; rw [hy246]; with_reducible exact H2_) | (have H2_ := (Option.bind_some _ _).symm.trans H; with_reducible exact H2_) | with_reducible exact H | (rw [hy246]; exact H) | exact H
    have Ny246 := Aside0.mk hy246
    clear hy246
    have H' := Aside0.mk H
    clear H
    obtain ⟨ad239, rfl, hx239_0, hx239_1, hx239_2, hx239_3, p239, q239⟩ := atU_T53 HR0 HB x22_1
    try go_wp2_with (first | ((with_reducible refine gate_dst (N := 11) rfl ?_); refine boxEv (N := 11) #[.int .i64 0, .int .i64 0, .int .i64 0, .int .i64 0] 53 ?_; intro gb240 hg w16 hbox hb; replace HO_9 := Aside0.mk (Kd.R_below (Kd.R_elderB (kdUp HO_9.out) gb240 (Nat.le_of_eq hg.symm)) hb); have BK240 := Aside0.mk hbox; have GW240 := gwN HB hg; have GE240 := GW240; replace HB := hbD HB hb; clear hb hbox hg; obtain ⟨hcz17_0, hcz17_1, hcz17_2, hcz17_3, hfz17_0, hfz17_1, hfz17_2, hfz17_3⟩ := bcf4 (W := w16) BK240; obtain ⟨Ao18, co18, eo18⟩ := Kd.R_slice HO_9.out; subst eo18))
    generalize hW_ : ((((w16.setCell ⟨gb240, 0, none⟩ (.int .i64 ((rd_T53 l0 x22_1).f0))).setCell ⟨gb240, 1, none⟩ (.int .i64 ((rd_T53 l0 x22_1).f1))).setCell ⟨gb240, 2, none⟩ (.int .i64 ((rd_T53 l0 x22_1).f2))).setCell ⟨gb240, 3, none⟩ (.int .i64 ((rd_T53 l0 x22_1).f3))) = w19
    replace HO_9 : Aside0 (Kd.R k53 53 w19 w.heap.size (fun k_ => k_ ≠ gb240) (.slice Ao18 x9_1.length co18) x9_1) := ⟨by subst hW_; (with_reducible repeat (first | apply Kd.R_alloc | apply Kd.R_drewN | apply Kd.R_drew)); exact Kd.R_mono (Kd.R_far (p := ⟨gb240, 3, none⟩) (Kd.R_far (p := ⟨gb240, 2, none⟩) (Kd.R_far (p := ⟨gb240, 1, none⟩) (Kd.R_far (p := ⟨gb240, 0, none⟩) (Kd.R_mono HO_9.out (fun k_ hk => (⟨hk, hk.2⟩ : _ ∧ k_ ≠ gb240))) (fun _ hk => hk.2) (.int .i64 ((rd_T53 l0 x22_1).f0))) (fun _ hk => hk.2) (.int .i64 ((rd_T53 l0 x22_1).f1))) (fun _ hk => hk.2) (.int .i64 ((rd_T53 l0 x22_1).f2))) (fun _ hk => hk.2) (.int .i64 ((rd_T53 l0 x22_1).f3))) (fun _ hk => hk.1.2)⟩
    replace BK240 := bkG BK240 hW_
    replace HB := hbG HB hW_
    clear hW_
    replace HO_9 := Aside0.mk (Kd.R_drew HO_9.out)
    replace BK240 := Aside0.mk (blk_drew BK240.out)
    replace HB := Aside0.mk (below_drew1 HB.out)
    have p241 : 0 ≤ ((ji10) : Int) := ofDec
    have q241 : (ji10) < (x9_1.length : Int) := ofDec
    obtain ⟨ad241, e241, hx241_0, hx241_1, hx241_2, hx241_3⟩ := at_T53 (Kd.R_reads' HO_9.out).2.2 (ji10) p241 q241
    cases e241
    replace p241 := eq_true p241
    replace q241 := eq_true q241
    have p242 : 0 ≤ ((ji10) : Int) := ofDec
    have q242 : (ji10) < (x9_1.length : Int) := ofDec
    obtain ⟨ad242, e242, hx242_0, hx242_1, hx242_2, hx242_3⟩ := at_T53 (Kd.R_reads' HO_9.out).2.2 (ji10) p242 q242
    obtain rfl : ad241 = ad242 := (by injection e242)
    replace p242 := eq_true p242
    replace q242 := eq_true q242
    refine start_ (n := 18) (S := fun w' => w'.cell? ⟨gb240, 0, none⟩ = some (.int .i64 ((rd_T53 l0 x22_1).f0)) ∧ w'.cell? ⟨gb240, 1, none⟩ = some (.int .i64 ((rd_T53 l0 x22_1).f1)) ∧ w'.cell? ⟨gb240, 2, none⟩ = some (.int .i64 ((rd_T53 l0 x22_1).f2)) ∧ w'.cell? ⟨gb240, 3, none⟩ = some (.int .i64 ((rd_T53 l0 x22_1).f3)) ∧ w'.cell? (ad241.add (((ji10)).toNat * 4)) = some (.int .i64 ((rd_T53 x9_1 (ji10)).f0)) ∧ w'.cell? ⟨(ad241.add (((ji10)).toNat * 4)).block, (ad241.add (((ji10)).toNat * 4)).off + 1, none⟩ = some (.int .i64 ((rd_T53 x9_1 (ji10)).f1)) ∧ w'.cell? ⟨(ad241.add (((ji10)).toNat * 4)).block, (ad241.add (((ji10)).toNat * 4)).off + 2, none⟩ = some (.int .i64 ((rd_T53 x9_1 (ji10)).f2)) ∧ w'.cell? ⟨(ad241.add (((ji10)).toNat * 4)).block, (ad241.add (((ji10)).toNat * 4)).off + 3, none⟩ = some (.int .i64 ((rd_T53 x9_1 (ji10)).f3)) ∧ w'.cell? (ad241.add (((ji10)).toNat * 4)) = some (.int .i64 ((rd_T53 x9_1 (ji10)).f0)) ∧ w'.cell? ⟨(ad241.add (((ji10)).toNat * 4)).block, (ad241.add (((ji10)).toNat * 4)).off + 1, none⟩ = some (.int .i64 ((rd_T53 x9_1 (ji10)).f1)) ∧ w'.cell? ⟨(ad241.add (((ji10)).toNat * 4)).block, (ad241.add (((ji10)).toNat * 4)).off + 2, none⟩ = some (.int .i64 ((rd_T53 x9_1 (ji10)).f2)) ∧ w'.cell? ⟨(ad241.add (((ji10)).toNat * 4)).block, (ad241.add (((ji10)).toNat * 4)).off + 3, none⟩ = some (.int .i64 ((rd_T53 x9_1 (ji10)).f3))) (ds := []) (Array.replicate 18 false) (by kernel_rfl) rfl rfl ⟨bc BK240 0, bc BK240 1, bc BK240 2, bc BK240 3, hx241_0, hx241_1, hx241_2, hx241_3, hx242_0, hx242_1, hx242_2, hx242_3⟩ (fun hHeld => ?_); refine with_tabW edits_Normal.tab9 edits_Normal.bits9 (fun HT_ HW_ => ?_)
    generalize w19.drew = w20 at HO_9 BK240 HB hx241_0 hx241_1 hx241_2 hx241_3 hx242_0 hx242_1 hx242_2 hx242_3 hHeld ⊢
    refine pureT 0 ?_
    refine pureT 1 ?_
    refine pureT 2 ?_
    refine pureT 3 ?_
    refine pureT 4 ?_
    refine pureT 5 ?_
    refine pureT 6 ?_
    refine pureT 8 ?_
    refine pureT 9 ?_
    refine pureT 10 ?_
    refine pureT 11 ?_
    refine pureT 14 ?_
    refine takeT 7 hHeld ?_
    refine takeT 12 hHeld ?_
    refine pureT 13 ?_
    refine takeT 15 hHeld ?_
    refine pureT 16 ?_
    refine pureT 17 ?_
    refine done_ (done_of HT_.out (by kernel_rfl)) ?_
    try go_wp2
    replace HO_9 := Aside0.mk (Kd.R_drew HO_9.out)
    replace BK240 := Aside0.mk (blk_drew BK240.out)
    replace HB := Aside0.mk (below_drew1 HB.out)
    have p243 : 0 ≤ ((ji10) : Int) := ofDec
    have q243 : (ji10) < (x9_1.length : Int) := ofDec
    obtain ⟨ad243, e243, hx243_0, hx243_1, hx243_2, hx243_3⟩ := at_T53 (Kd.R_reads' HO_9.out).2.2 (ji10) p243 q243
    obtain rfl : ad241 = ad243 := (by injection e243)
    replace p243 := eq_true p243
    replace q243 := eq_true q243
    have p14 : 0 ≤ ((ji10) : Int) := ofDec
    have q14 : ((ji10) : Int) < ((x9_1.length : Int) : Int) := ofDec
    obtain ⟨go14, co14, eo14, gb14, gl14, cl14, HG14⟩ := Kd.R_form HO_9.out (by omega)
    (first | cases eo14 | (injection eo14 with ea_ en_ ec_; (first | subst ea_ | (injection ea_ with ea_; subst ea_)); subst ec_; clear en_))
    have GB14 := Aside0.mk gb14
    have GG14 := Aside0.mk HG14
    clear gb14 gl14 HG14
    (first | simp only [add_plain] at hx241_0 | skip)
    (first | simp only [add_plain] at hx241_1 | skip)
    (first | simp only [add_plain] at hx241_2 | skip)
    (first | simp only [add_plain] at hx241_3 | skip)
    (first | simp only [add_plain] at hx242_0 | skip)
    (first | simp only [add_plain] at hx242_1 | skip)
    (first | simp only [add_plain] at hx242_2 | skip)
    (first | simp only [add_plain] at hx242_3 | skip)
    (first | simp only [add_plain] at hx243_0 | skip)
    (first | simp only [add_plain] at hx243_1 | skip)
    (first | simp only [add_plain] at hx243_2 | skip)
    (first | simp only [add_plain] at hx243_3 | skip)
    obtain ⟨ce14, hcl14, hM14, hcc14, hfr14⟩ := Kd.R_elem HO_9.out z53 ((ji10) : Int) p14 q14
    obtain rfl := k53_openM hM14
    have hx14_0 : World.cell? _ ⟨go14, ((ji10) : Int).toNat * 4, none⟩ = some (.int .i64 ((rd_T53 x9_1 (ji10)).f0)) := hcc14 0 _ rfl
    have hx14_1 : World.cell? _ ⟨go14, ((ji10) : Int).toNat * 4 + 1, none⟩ = some (.int .i64 ((rd_T53 x9_1 (ji10)).f1)) := hcc14 1 _ rfl
    have hx14_2 : World.cell? _ ⟨go14, ((ji10) : Int).toNat * 4 + 2, none⟩ = some (.int .i64 ((rd_T53 x9_1 (ji10)).f2)) := hcc14 2 _ rfl
    have hx14_3 : World.cell? _ ⟨go14, ((ji10) : Int).toNat * 4 + 3, none⟩ = some (.int .i64 ((rd_T53 x9_1 (ji10)).f3)) := hcc14 3 _ rfl
    have hf14_0 : World.frozen? _ ⟨go14, ((ji10) : Int).toNat * 4, none⟩ = false := hfr14 0
    have hf14_1 : World.frozen? _ ⟨go14, ((ji10) : Int).toNat * 4 + 1, none⟩ = false := hfr14 1
    have hf14_2 : World.frozen? _ ⟨go14, ((ji10) : Int).toNat * 4 + 2, none⟩ = false := hfr14 2
    have hf14_3 : World.frozen? _ ⟨go14, ((ji10) : Int).toNat * 4 + 3, none⟩ = false := hfr14 3
    clear hcl14 hcc14 hfr14 hM14
    replace p14 := eq_true p14
    replace q14 := eq_true q14
    obtain ⟨ce22, hcl22, hM22, hcc22, hfr22⟩ := Kd.R_elem HO_9.out z53 ((ji10) : Int) (ofDec) (by have h_ : ((ji10) : Int) < ((x9_1.length : Int) : Int) := ofDec; first | exact h_ | (have e_ := (Kd.R_reads' HO_9.out).1; omega) | simpa using h_)
    obtain rfl := k53_openM hM22
    have HP22 := (Kd.R_seg HO_9.out ((ji10) : Int) (ofDec) (by have h_ : ((ji10) : Int) < ((x9_1.length : Int) : Int) := ofDec; first | exact h_ | (have e_ := (Kd.R_reads' HO_9.out).1; omega) | simpa using h_) (seg := [.int .i64 (wrap64 (((rd_T53 x9_1 (ji10)).f1) + ((rd_T53 l0 x22_1).f1)))]) (j := 1) hcl22 hcc22 (show 2 ≤ 4 from by decide) (x' := (⟨(rd_T53 x9_1 (ji10)).f0, wrap64 (((rd_T53 x9_1 (ji10)).f1) + ((rd_T53 l0 x22_1).f1)), (rd_T53 x9_1 (ji10)).f2, (rd_T53 x9_1 (ji10)).f3⟩ : S53)) (k53_mkM _ _ _ (⟨(rd_T53 x9_1 (ji10)).f0, wrap64 (((rd_T53 x9_1 (ji10)).f1) + ((rd_T53 l0 x22_1).f1)), (rd_T53 x9_1 (ji10)).f2, (rd_T53 x9_1 (ji10)).f3⟩ : S53) ) (fun _ hk => hk)).1
    rw [← Ny244.out] at HP22
    have HQ22 := Aside0.mk HP22
    clear hcl22 hcc22 hfr22 hM22 HP22
    refine start_ (n := 11) (S := fun w' => w'.cell? ⟨gb240, 0, none⟩ = some (.int .i64 ((rd_T53 l0 x22_1).f0)) ∧ w'.cell? ⟨gb240, 1, none⟩ = some (.int .i64 ((rd_T53 l0 x22_1).f1)) ∧ w'.cell? ⟨gb240, 2, none⟩ = some (.int .i64 ((rd_T53 l0 x22_1).f2)) ∧ w'.cell? ⟨gb240, 3, none⟩ = some (.int .i64 ((rd_T53 l0 x22_1).f3)) ∧ w'.cell? ⟨go14, ((ji10)).toNat * 4, none⟩ = some (.int .i64 ((rd_T53 x9_1 (ji10)).f0)) ∧ w'.cell? ⟨go14, ((ji10)).toNat * 4 + 1, none⟩ = some (.int .i64 ((rd_T53 x9_1 (ji10)).f1)) ∧ w'.cell? ⟨go14, ((ji10)).toNat * 4 + 2, none⟩ = some (.int .i64 ((rd_T53 x9_1 (ji10)).f2)) ∧ w'.cell? ⟨go14, ((ji10)).toNat * 4 + 3, none⟩ = some (.int .i64 ((rd_T53 x9_1 (ji10)).f3))) (ds := [10]) (Array.replicate 11 false) (by kernel_rfl) rfl rfl ⟨bc BK240 0, bc BK240 1, bc BK240 2, bc BK240 3, hx243_0, hx243_1, hx243_2, hx243_3⟩ (fun hHeld => ?_); refine with_tabW edits_Normal.tab10 edits_Normal.bits10 (fun HT_ HW_ => ?_)
    generalize w20.drew = w21 at HO_9 BK240 HB GG14 HQ22 hf14_0 hf14_1 hf14_2 hf14_3 hx14_0 hx14_1 hx14_2 hx14_3 hx241_0 hx241_1 hx241_2 hx241_3 hx242_0 hx242_1 hx242_2 hx242_3 hx243_0 hx243_1 hx243_2 hx243_3 hHeld ⊢
    refine pureT 0 ?_
    refine pureT 1 ?_
    refine pureT 2 ?_
    refine pureT 3 ?_
    refine pureT 5 ?_
    refine takeT 4 hHeld ?_
    refine takeT 6 hHeld ?_
    refine pureT 7 ?_
    refine pureT 8 ?_
    refine pureT 9 ?_
    refine last_ (i := 10) (N := none) #[true, true, true, true, true, true, true, true, true, true, true] rfl rfl (one_of HT_.out (by kernel_rfl)) (by decide) (fun K hK => ?_)
    refine skip_ (w1 := ?_) (by rfl) rfl ?_ ?_
    rotate_left
    ·go_simp
     rfl
    refine hK.out _ _ ?_
    clear hK K
    refine done_ (done_of HT_.out (by kernel_rfl)) ?_
    try go_wp2
    generalize hW_ : (w21.setCell ⟨go14, ((ji10) : Int).toNat * 4 + 1, none⟩ (.int .i64 (wrap64 (((rd_T53 x9_1 (ji10)).f1) + ((rd_T53 l0 x22_1).f1))))) = w23
    replace BK240 : Aside0 (w23.heap[gb240]? = some (.cells #[.int .i64 ((rd_T53 l0 x22_1).f0), .int .i64 ((rd_T53 l0 x22_1).f1), .int .i64 ((rd_T53 l0 x22_1).f2), .int .i64 ((rd_T53 l0 x22_1).f3)] 53 (0, 0))) := ⟨by subst hW_; refine bkUp ?_; refine blk_far ?_ (by have h_ := Kd.R_away HO_9.out (fun _ hk => hk); intro e_; exact h_ (by rw [e_]; rfl)) _; exact bkUp BK240.out⟩
    replace HO_9 : Aside0 (Kd.R k53 53 w23 w.heap.size (fun k_ => k_ ≠ gb240) (.slice (some ⟨go14, 0, none⟩) x9_1.length co18) y244) := ⟨by subst hW_; (with_reducible repeat (first | apply Kd.R_alloc | apply Kd.R_drewN | apply Kd.R_drew)); exact HQ22.out⟩
    replace HB := hbG HB hW_
    clear hW_
    replace HO_9 := Aside0.mk (Kd.R_drew HO_9.out)
    replace BK240 := Aside0.mk (blk_drew BK240.out)
    replace HB := Aside0.mk (below_drew1 HB.out)
    have p245 : 0 ≤ ((ji10) : Int) := ofDec
    have q245 : (ji10) < (y244.length : Int) := (by have h_ : ((ji10) : Int) < ((x9_1.length : Int) : Int) := ofDec; first | (have e_ := (Kd.R_reads' HO_9.out).1; omega) | simpa only [Ny244.out, List.length_set] using h_)
    have ql245 : (((ji10) : Int) < ((x9_1.length : Int) : Int)) = True := eq_true (ofDec)
    obtain ⟨ad245, e245, hx245_0, hx245_1, hx245_2, hx245_3⟩ := at_T53 (Kd.R_reads' HO_9.out).2.2 (ji10) p245 q245
    obtain rfl : (⟨go14, 0, none⟩ : Addr) = ad245 := (by injection e245)
    (first | simp only [add_plain] at hx245_0 | simp only [add_at] at hx245_0 | simp only [Addr.add, Nat.zero_add] at hx245_0 | skip)
    (first | simp only [add_plain] at hx245_1 | simp only [add_at] at hx245_1 | simp only [Addr.add, Nat.zero_add] at hx245_1 | skip)
    (first | simp only [add_plain] at hx245_2 | simp only [add_at] at hx245_2 | simp only [Addr.add, Nat.zero_add] at hx245_2 | skip)
    (first | simp only [add_plain] at hx245_3 | simp only [add_at] at hx245_3 | simp only [Addr.add, Nat.zero_add] at hx245_3 | skip)
    replace p245 := eq_true p245
    replace q245 := eq_true q245
    have p15 : 0 ≤ ((ji10) : Int) := ofDec
    have q15 : ((ji10) : Int) < ((x9_1.length : Int) : Int) := ofDec
    obtain ⟨ce15, hcl15, hM15, hcc15, hfr15⟩ := Kd.R_elem HO_9.out z53 ((ji10) : Int) p15 q15
    obtain rfl := k53_openM hM15
    have hx15_0 : World.cell? _ ⟨go14, ((ji10) : Int).toNat * 4, none⟩ = some (.int .i64 ((rd_T53 y244 (ji10)).f0)) := hcc15 0 _ rfl
    have hx15_1 : World.cell? _ ⟨go14, ((ji10) : Int).toNat * 4 + 1, none⟩ = some (.int .i64 ((rd_T53 y244 (ji10)).f1)) := hcc15 1 _ rfl
    have hx15_2 : World.cell? _ ⟨go14, ((ji10) : Int).toNat * 4 + 2, none⟩ = some (.int .i64 ((rd_T53 y244 (ji10)).f2)) := hcc15 2 _ rfl
    have hx15_3 : World.cell? _ ⟨go14, ((ji10) : Int).toNat * 4 + 3, none⟩ = some (.int .i64 ((rd_T53 y244 (ji10)).f3)) := hcc15 3 _ rfl
    have hf15_0 : World.frozen? _ ⟨go14, ((ji10) : Int).toNat * 4, none⟩ = false := hfr15 0
    have hf15_1 : World.frozen? _ ⟨go14, ((ji10) : Int).toNat * 4 + 1, none⟩ = false := hfr15 1
    have hf15_2 : World.frozen? _ ⟨go14, ((ji10) : Int).toNat * 4 + 2, none⟩ = false := hfr15 2
    have hf15_3 : World.frozen? _ ⟨go14, ((ji10) : Int).toNat * 4 + 3, none⟩ = false := hfr15 3
    clear hcl15 hcc15 hfr15 hM15
    replace p15 := eq_true p15
    replace q15 := eq_true q15
    obtain ⟨ce25, hcl25, hM25, hcc25, hfr25⟩ := Kd.R_elem HO_9.out z53 ((ji10) : Int) (ofDec) (by have h_ : ((ji10) : Int) < ((x9_1.length : Int) : Int) := ofDec; first | exact h_ | (have e_ := (Kd.R_reads' HO_9.out).1; omega) | simpa using h_)
    obtain rfl := k53_openM hM25
    have HP25 := (Kd.R_seg HO_9.out ((ji10) : Int) (ofDec) (by have h_ : ((ji10) : Int) < ((x9_1.length : Int) : Int) := ofDec; first | exact h_ | (have e_ := (Kd.R_reads' HO_9.out).1; omega) | simpa using h_) (seg := [.int .i64 (wrap64 (((rd_T53 y244 (ji10)).f3) + ((rd_T53 l0 x22_1).f3)))]) (j := 3) hcl25 hcc25 (show 4 ≤ 4 from by decide) (x' := (⟨(rd_T53 y244 (ji10)).f0, (rd_T53 y244 (ji10)).f1, (rd_T53 y244 (ji10)).f2, wrap64 (((rd_T53 y244 (ji10)).f3) + ((rd_T53 l0 x22_1).f3))⟩ : S53)) (k53_mkM _ _ _ (⟨(rd_T53 y244 (ji10)).f0, (rd_T53 y244 (ji10)).f1, (rd_T53 y244 (ji10)).f2, wrap64 (((rd_T53 y244 (ji10)).f3) + ((rd_T53 l0 x22_1).f3))⟩ : S53) ) (fun _ hk => hk)).1
    rw [← Ny246.out] at HP25
    have HQ25 := Aside0.mk HP25
    clear hcl25 hcc25 hfr25 hM25 HP25
    refine start_ (n := 11) (S := fun w' => w'.cell? ⟨gb240, 0, none⟩ = some (.int .i64 ((rd_T53 l0 x22_1).f0)) ∧ w'.cell? ⟨gb240, 1, none⟩ = some (.int .i64 ((rd_T53 l0 x22_1).f1)) ∧ w'.cell? ⟨gb240, 2, none⟩ = some (.int .i64 ((rd_T53 l0 x22_1).f2)) ∧ w'.cell? ⟨gb240, 3, none⟩ = some (.int .i64 ((rd_T53 l0 x22_1).f3)) ∧ w'.cell? ⟨go14, ((ji10)).toNat * 4, none⟩ = some (.int .i64 ((rd_T53 y244 (ji10)).f0)) ∧ w'.cell? ⟨go14, ((ji10)).toNat * 4 + 1, none⟩ = some (.int .i64 ((rd_T53 y244 (ji10)).f1)) ∧ w'.cell? ⟨go14, ((ji10)).toNat * 4 + 2, none⟩ = some (.int .i64 ((rd_T53 y244 (ji10)).f2)) ∧ w'.cell? ⟨go14, ((ji10)).toNat * 4 + 3, none⟩ = some (.int .i64 ((rd_T53 y244 (ji10)).f3))) (ds := [10]) (Array.replicate 11 false) (by kernel_rfl) rfl rfl ⟨bc BK240 0, bc BK240 1, bc BK240 2, bc BK240 3, hx245_0, hx245_1, hx245_2, hx245_3⟩ (fun hHeld => ?_); refine with_tabW edits_Normal.tab11 edits_Normal.bits11 (fun HT_ HW_ => ?_)
    generalize w23.drew = w24 at HO_9 BK240 HB HQ22 HQ25 hf15_0 hf15_1 hf15_2 hf15_3 hx15_0 hx15_1 hx15_2 hx15_3 hx245_0 hx245_1 hx245_2 hx245_3 hHeld ⊢
    refine pureT 0 ?_
    refine pureT 1 ?_
    refine pureT 2 ?_
    refine pureT 3 ?_
    refine pureT 5 ?_
    refine takeT 4 hHeld ?_
    refine takeT 6 hHeld ?_
    refine pureT 7 ?_
    refine pureT 8 ?_
    refine pureT 9 ?_
    refine last_ (i := 10) (N := none) #[true, true, true, true, true, true, true, true, true, true, true] rfl rfl (one_of HT_.out (by kernel_rfl)) (by decide) (fun K hK => ?_)
    refine skip_ (w1 := ?_) (by rfl) rfl ?_ ?_
    rotate_left
    ·go_simp
     rfl
    refine hK.out _ _ ?_
    clear hK K
    refine done_ (done_of HT_.out (by kernel_rfl)) ?_
    try go_wp2
    go_roundg k1
    case measure => have := HK1.out; omega
    case rel => exact ⟨(y246), (wrap64 (x22_1 + 1)), eqNow, H', ⟨by have := HK1.out; omega⟩, ⟨by (with_reducible repeat (first | apply Kd.R_alloc | apply Kd.R_drewN | apply Kd.R_drew)); exact Kd.R_mono HQ25.out (fun _ hk => trivial)⟩, ⟨by repeat (first | (with_reducible first | exact HB.out | apply below_alloc | apply pw_below_drewN | apply below_drew1 | refine below_set ?_ GB14.out | refine below_set ?_ GE240.out) | exact HB.out)⟩⟩
 have H1 : (some (([] : List (S53)), some q238)) = some (r1, r2) := by rw [if_neg (show ¬ (some q238).isNone = true by simp)] at H; exact H
 clear H
 have H := H1
 clear H1
 try simp only [errW_none, errW_some]
 simp only [Option.some.injEq, Prod.mk.injEq] at H
 obtain ⟨rfl, rfl⟩ := H
 go_enter Tryd.func17, Tryd.ntmps17
 go_wp2_with (first | ((with_reducible refine gate_callee (f := 33) rfl ?_); refine goL (some 16) Tryd.func33 #[.slice A0 l0.length c0, .int .i64 a1, .int .i64 a2] ?_; (with_reducible refine (edits_Valid.calls k _ _ l0 a1 a2 (some q238) _ ?side1 ?side2 A4.out).mono ?_); (case side1 => repeat (first | exact HR0.out | (with_reducible refine Kd.C_alloc ?_ _) | (with_reducible refine Kd.C_drewN ?_ _) | (with_reducible refine Kd.C_drew ?_))); (case side2 => exact HC0.out); rintro e w42 ⟨rfl, hb⟩; refine ⟨_, rfl, ?_⟩; replace HB := hbD HB hb; clear hb; (try simp only [errW_none, errW_some])))
 go_ret2
 exact ⟨_, eqEnd, by first | exact Kd.R_nil _ _ _ _ _ | exact Kd.N_nil _ _ _ _ _ | exact Kd.V_nil _ _ _ _ _ | exact Kd.Q_nil _ _ _ _ _ | exact Kd.S_nil _ _ _ _ _, belNow⟩
end Go.Proofs.YtecjoofjiockkaaDoor.Pp
