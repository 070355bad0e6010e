-- Printed by this session's pp.py over the kit's printer, out of the translation. Lean checks it.
import Derived.Test.YtmfanpibpmajnaaDoorESq
import Derived.Test.YtmfanpibpmajnaaDoorPp0
import Derived.Test.YtmfanpibpmajnaaDoorPp2
namespace Go.Proofs.YtmfanpibpmajnaaDoor.Pp
open Go.RowKit Go.Proofs.YtmfanpibpmajnaaDoor.Ext Go.Proofs.YtmfanpibpmajnaaDoorW.PrintWords Go.Proofs.YtmfanpibpmajnaaDoorW.PrintLast Go.Proofs.YtmfanpibpmajnaaDoorW.PrintMore
attribute [local go_sem] max2_int min2_int max_two min_two max_three min_three max_four min_four   -- for this text's walks alone
set_option linter.unusedVariables false
set_option linter.unusedSimpArgs false
def edits_Normal.l0 : Nat → List (S43) → List (S43) → Int → Int → Option ((List (S43)) × Option Int)
 | 0, _, _, _, _ => none
 | k + 1, x9, x20, x21, x22 => if x22 < x21 then (if 0 ≤ x22 then (if x22 < (x20.length : Int) then (if (wrap64 ((x9.length : Int) - 1)) ≥ 0 then (if 0 ≤ (wrap64 ((x9.length : Int) - 1)) then (if (wrap64 ((x9.length : Int) - 1)) < (x9.length : Int) then (if (wrap64 (((rd_T43 x9 (wrap64 ((x9.length : Int) - 1))).f0) + ((rd_T43 x9 (wrap64 ((x9.length : Int) - 1))).f1))) = ((rd_T43 x20 x22).f0) then ((some (x9.set ((wrap64 ((x9.length : Int) - 1)) : Int).toNat (⟨(rd_T43 x9 (wrap64 ((x9.length : Int) - 1))).f0, wrap64 (((rd_T43 x9 (wrap64 ((x9.length : Int) - 1))).f1) + ((rd_T43 x20 x22).f1)), (rd_T43 x9 (wrap64 ((x9.length : Int) - 1))).f2, (rd_T43 x9 (wrap64 ((x9.length : Int) - 1))).f3⟩ : S43) : List (S43))).bind fun y114 => (edits_Normal.l0 k (y114.set ((wrap64 ((x9.length : Int) - 1)) : Int).toNat (⟨(rd_T43 y114 (wrap64 ((x9.length : Int) - 1))).f0, (rd_T43 y114 (wrap64 ((x9.length : Int) - 1))).f1, (rd_T43 y114 (wrap64 ((x9.length : Int) - 1))).f2, wrap64 (((rd_T43 y114 (wrap64 ((x9.length : Int) - 1))).f3) + ((rd_T43 x20 x22).f3))⟩ : S43)) x20 x21 (wrap64 (x22 + 1)))) else (if x9.length < 4398046511104 then (edits_Normal.l0 k (x9 ++ [(⟨(rd_T43 x20 x22).f0, (rd_T43 x20 x22).f1, (rd_T43 x20 x22).f2, (rd_T43 x20 x22).f3⟩ : S43)]) x20 x21 (wrap64 (x22 + 1))) else (none))) else (none)) else (none)) else (if x9.length < 4398046511104 then (edits_Normal.l0 k (x9 ++ [(⟨(rd_T43 x20 x22).f0, (rd_T43 x20 x22).f1, (rd_T43 x20 x22).f2, (rd_T43 x20 x22).f3⟩ : S43)]) x20 x21 (wrap64 (x22 + 1))) else (none))) else (none)) else (none)) else (some (x9, none))
def edits_Normal.f (k : Nat) (l0 : List (S43)) (a1 : Int) (a2 : Int) : Option ((List (S43)) × Option Int) := (edits_Valid.f k l0 a1 a2).bind fun t107 => (if t107.isNone = true then (edits_Normal.l0 k ([] : List (S43)) l0 (l0.length : Int) 0) else (some (([] : List (S43)), some (t107.getD 0))))
theorem edits_Normal.mono_l : ∀ k, (∀ y0 y1 y2 y3, LeO (edits_Normal.l0 k y0 y1 y2 y3) (edits_Normal.l0 (k + 1) y0 y1 y2 y3))
 | 0 => fun _ _ _ _ r h => by simp [edits_Normal.l0] at h
 | k + 1 => by
  have ih0 := edits_Normal.mono_l k
  ·intro y0 y1 y2 y3
   unfold edits_Normal.l0
   repeat' first
   | (with_reducible exact ih0 _ _ _ _)
   | (with_reducible exact edits_Valid.mono _ _ _ _)
   | (with_reducible exact LeO.refl _)
   | (with_reducible exact LeO.none _)
   | (with_reducible refine LeO.ite ?_ ?_)
   | (with_reducible refine LeO.bind ?_ (fun _ => ?_))
   | exact ih0 _ _ _ _
   | exact edits_Valid.mono _ _ _ _
   | exact LeO.none _
   | refine LeO.ite ?_ ?_
   | refine LeO.bind ?_ (fun _ => ?_)
theorem edits_Normal.mono : ∀ a0 a1 a2 k, LeO (edits_Normal.f k a0 a1 a2) (edits_Normal.f (k + 1) a0 a1 a2) := by
 intro a0 a1 a2 k
 have ih0 := edits_Normal.mono_l k
 unfold edits_Normal.f
 repeat' first
   | (with_reducible exact ih0 _ _ _ _)
   | (with_reducible exact edits_Valid.mono _ _ _ _)
   | (with_reducible exact LeO.refl _)
   | (with_reducible exact LeO.none _)
   | (with_reducible refine LeO.ite ?_ ?_)
   | (with_reducible refine LeO.bind ?_ (fun _ => ?_))
   | exact ih0 _ _ _ _
   | exact edits_Valid.mono _ _ _ _
   | exact LeO.none _
   | refine LeO.ite ?_ ?_
   | refine LeO.bind ?_ (fun _ => ?_)
def edits_Normal.T9 : Bool × List (List Nat × List Nat) := (true, [([], []), ([0], [0]), ([1], [1]), ([2], [2]), ([2], [2]), ([3, 4, 2], [2, 3, 4]), ([5, 2], [2, 5]), ([6, 2], [2, 6]), ([2], [2]), ([2], [2]), ([8, 9, 2], [2, 8, 9]), ([10, 2], [2, 10]), ([11, 2], [2, 11]), ([7, 12, 2], [2, 7, 12]), ([2], [2]), ([14, 2], [2, 14]), ([13, 15, 2], [2, 13, 15]), ([2, 16], [2, 16])])
def edits_Normal.B9 : List Nat := [0, 1, 3, 7, 7, 31, 63, 127, 7, 7, 775, 1799, 3847, 8191, 7, 16391, 65535, 131071]
theorem edits_Normal.tab9 : rtab .any (opsOf Tryd.f18 9) = edits_Normal.T9 := by kernel_rfl
theorem edits_Normal.bits9 : waitsOk edits_Normal.T9.2 edits_Normal.B9 = true := by kernel_rfl
def edits_Normal.T10 : Bool × List (List Nat × List Nat) := (true, [([], []), ([], []), ([0, 1], [0, 1]), ([2], [2]), ([3], [3]), ([], []), ([5], [5]), ([4, 6], [4, 6]), ([0, 1, 0, 1, 2, 3, 4, 5, 6, 7], [0, 1]), ([8, 0, 1, 2, 3, 4, 5, 6, 7], [8]), ([9, 7, 0, 1, 2, 3, 4, 5, 6, 7], [7, 9])])
def edits_Normal.B10 : List Nat := [0, 0, 3, 7, 15, 0, 32, 127, 255, 511, 1023]
theorem edits_Normal.tab10 : rtab .any (opsOf Tryd.f18 10) = edits_Normal.T10 := by kernel_rfl
theorem edits_Normal.bits10 : waitsOk edits_Normal.T10.2 edits_Normal.B10 = true := by kernel_rfl
def edits_Normal.T11 : Bool × List (List Nat × List Nat) := (true, [([], []), ([], []), ([0, 1], [0, 1]), ([2], [2]), ([3], [3]), ([], []), ([5], [5]), ([4, 6], [4, 6]), ([0, 1, 0, 1, 2, 3, 4, 5, 6, 7], [0, 1]), ([8, 0, 1, 2, 3, 4, 5, 6, 7], [8]), ([9, 7, 0, 1, 2, 3, 4, 5, 6, 7], [7, 9])])
def edits_Normal.B11 : List Nat := [0, 0, 3, 7, 15, 0, 32, 127, 255, 511, 1023]
theorem edits_Normal.tab11 : rtab .any (opsOf Tryd.f18 11) = edits_Normal.T11 := by kernel_rfl
theorem edits_Normal.bits11 : waitsOk edits_Normal.T11.2 edits_Normal.B11 = true := by kernel_rfl
set_option maxHeartbeats 80000000 in
set_option maxRecDepth 100000 in
theorem edits_Normal.calls (k : Nat) (A0 : Option Addr) (c0 : Nat) (l0 : List (S43)) (a1 : Int) (a2 : Int) (r1 : List (S43)) (r2 : Option Int) (w : World) (hr0 : Kd.C k43 w A0 l0.length l0) (hc0 : l0.length ≤ c0) (h : edits_Normal.f k l0 a1 a2 = some (r1, r2)) :
  Calls Tryd.prog 18 #[.slice A0 l0.length c0, .int .i64 a1, .int .i64 a2] w fun e w' => ∃ v0_ : Value, e = .returned (.tuple #[v0_, errW r2]) ∧ Kd.R k43 43 w' w.heap.size (fun _ => True) v0_ r1 ∧ Below w.heap.size w w' := by
 have hu43 := Tryd.underlying43
 have hu25 := Tryd.underlying25
 have hu49 := Tryd.underlying49
 have HR0 := Aside0.mk hr0
 have HC0 := Aside0.mk hc0
 clear hr0 hc0
 have HB := Aside0.mk (Below.refl w.heap.size w)
 have H : ((edits_Valid.f k l0 a1 a2).bind fun t107 => (if t107.isNone = true then (edits_Normal.l0 k ([] : List (S43)) l0 (l0.length : Int) 0) else (some (([] : List (S43)), some (t107.getD 0))))) = some (r1, r2) := h
 clear h
 replace H := Option.bind_eq_some_iff.mp H
 obtain ⟨t107, A40, H⟩ := H
 replace H : (if t107.isNone = true then (edits_Normal.l0 k ([] : List (S43)) l0 (l0.length : Int) 0) else (some (([] : List (S43)), some (t107.getD 0)))) = some (r1, r2) := H
 have A4 := Aside0.mk A40
 clear A40
 rcases t107 with _ | q108
 ·have H1 : (edits_Normal.l0 k ([] : List (S43)) l0 (l0.length : Int) 0) = some (r1, r2) := by rw [if_pos (show (none : Option Int).isNone = true by rfl)] at H; exact H
  clear H
  have H := H1
  clear H1
  try simp only [errW_none, errW_some]
  have H' := Aside0.mk H
  clear H
  go_enter Tryd.func18, Tryd.ntmps18
  try simp only [List.append_eq, List.cons_append, List.nil_append]
  go_wp2_with (first | ((with_reducible refine gate_callee (f := 27) rfl ?_); refine goesL_ (some 16) rfl rfl Tryd.func27 (by kernel_rfl) rfl #[.slice A0 l0.length c0, .int .i64 a1, .int .i64 a2] rfl argsOk ?_; (with_reducible refine (edits_Valid.calls k _ _ l0 a1 a2 none _ ?side1 ?side2 A4.out).mono ?_); (case side1 => repeat (first | exact HR0.out | (with_reducible refine Kd.C_alloc ?_ _) | (with_reducible refine Kd.C_drewN ?_ _) | (with_reducible refine Kd.C_drew ?_))); (case side2 => exact HC0.out); rintro e w5 ⟨rfl, hb⟩; refine ⟨_, rfl, ?_⟩; have n0_ := Aside0.mk (below_step belNow hb); clear HB; have HB := n0_; clear n0_; (try clear hb); (try clear hb2); (try clear hk); (try clear hi); (try simp only [errW_none, errW_some])))
  go_loopg [9, 22] k (fun kq v9 v22 w' => ∃ (x9_1 : List (S43)) (x22_1 : Int), v22 = .int .i64 x22_1 ∧ Aside0 (edits_Normal.l0 kq x9_1 l0 (l0.length : Int) x22_1 = some (r1, r2)) ∧ Aside0 (kq ≤ k) ∧ Aside0 (Kd.R k43 43 w' w.heap.size (fun _ => True) v9 x9_1) ∧ Aside0 (Below w.heap.size w w'))
  case atStart => exact ⟨(([] : List (S43))), (0), eqNow, H', ⟨Nat.le_refl _⟩, ⟨by first | exact Kd.R_nil _ _ _ _ _ | exact Kd.N_nil _ _ _ _ _ | exact Kd.V_nil _ _ _ _ _ | exact Kd.Q_nil _ _ _ _ _ | exact Kd.S_nil _ _ _ _ _⟩, ⟨belNow⟩⟩
  case round =>
   clear H'
   try clear c1
   try clear q1
   try clear c2
   try clear p2
   try clear q108
   obtain ⟨x9_1, x22_1, rfl, HA, HK1, HO_9, HB⟩ := hrel
   cases gk with
   | zero => exact absurd HA.out (by simp [edits_Normal.l0])
   | succ k1 =>
    have H := HA.out
    clear HA
    simp only [edits_Normal.l0] at H
    by_cases c6 : x22_1 < (l0.length : Int)
    ·rw [if_pos c6] at H
     have c6b0 : decide (x22_1 < (l0.length : Int)) = true := decide_eq_true c6
     clear c6
     by_cases c7 : 0 ≤ x22_1
     ·rw [if_pos c7] at H
      have c7b0 : decide (0 ≤ x22_1) = true := decide_eq_true c7
      clear c7
      by_cases c8 : x22_1 < (l0.length : Int)
      ·rw [if_pos c8] at H
       have c8b0 : decide (x22_1 < (l0.length : Int)) = true := decide_eq_true c8
       clear c8
       by_cases c9 : (wrap64 ((x9_1.length : Int) - 1)) ≥ 0
       ·rw [if_pos c9] at H
        have c9b0 : decide (0 ≤ (wrap64 ((x9_1.length : Int) - 1))) = true := decide_eq_true c9
        clear c9
        obtain ⟨ji10, hji10⟩ : ∃ j_ : Int, (wrap64 ((x9_1.length : Int) - 1)) = j_ := ⟨_, rfl⟩
        replace H : (if 0 ≤ (ji10) then (if (ji10) < (x9_1.length : Int) then (if (wrap64 (((rd_T43 x9_1 (ji10)).f0) + ((rd_T43 x9_1 (ji10)).f1))) = ((rd_T43 l0 x22_1).f0) then ((some (x9_1.set ((ji10) : Int).toNat (⟨(rd_T43 x9_1 (ji10)).f0, wrap64 (((rd_T43 x9_1 (ji10)).f1) + ((rd_T43 l0 x22_1).f1)), (rd_T43 x9_1 (ji10)).f2, (rd_T43 x9_1 (ji10)).f3⟩ : S43) : List (S43))).bind fun y114 => (edits_Normal.l0 k1 (y114.set ((ji10) : Int).toNat (⟨(rd_T43 y114 (ji10)).f0, (rd_T43 y114 (ji10)).f1, (rd_T43 y114 (ji10)).f2, wrap64 (((rd_T43 y114 (ji10)).f3) + ((rd_T43 l0 x22_1).f3))⟩ : S43)) l0 (l0.length : Int) (wrap64 (x22_1 + 1)))) else (if x9_1.length < 4398046511104 then (edits_Normal.l0 k1 (x9_1 ++ [(⟨(rd_T43 l0 x22_1).f0, (rd_T43 l0 x22_1).f1, (rd_T43 l0 x22_1).f2, (rd_T43 l0 x22_1).f3⟩ : S43)]) l0 (l0.length : Int) (wrap64 (x22_1 + 1))) else (none))) else (none)) else (none)) = some (r1, r2) := by first | (rw [hji10] at H; exact H) | (simp only [hji10] at H ⊢; exact H)
        (try rw [hji10] at c9b0)
        have hji10w : (IntKind.i64.wrap ((x9_1.length : Int) - 1)) = ji10 := (i64_w _).trans hji10
        by_cases c11 : 0 ≤ (ji10)
        ·rw [if_pos c11] at H
         have c11b0 : decide (0 ≤ (ji10)) = true := decide_eq_true c11
         clear c11
         by_cases c12 : (ji10) < (x9_1.length : Int)
         ·rw [if_pos c12] at H
          have c12b0 : decide ((ji10) < (x9_1.length : Int)) = true := decide_eq_true c12
          clear c12
          by_cases c13 : (wrap64 (((rd_T43 x9_1 (ji10)).f0) + ((rd_T43 x9_1 (ji10)).f1))) = ((rd_T43 l0 x22_1).f0)
          ·rw [if_pos c13] at H
           have c13b0 : ((wrap64 (((rd_T43 x9_1 (ji10)).f0) + ((rd_T43 x9_1 (ji10)).f1))) == ((rd_T43 l0 x22_1).f0)) = true := beq_iff_eq.mpr c13
           have c13b1 : ((wrap64 (((rd_T43 x9_1 (ji10)).f0) + ((rd_T43 x9_1 (ji10)).f1))) != ((rd_T43 l0 x22_1).f0)) = false := bne_eq_false_iff_eq.mpr c13
           clear c13
           obtain ⟨y114, hy114⟩ : ∃ y_ : List (S43), y_ = (x9_1.set ((ji10) : Int).toNat (⟨(rd_T43 x9_1 (ji10)).f0, wrap64 (((rd_T43 x9_1 (ji10)).f1) + ((rd_T43 l0 x22_1).f1)), (rd_T43 x9_1 (ji10)).f2, (rd_T43 x9_1 (ji10)).f3⟩ : S43)) := ⟨_, rfl⟩
           replace H : (edits_Normal.l0 k1 (y114.set ((ji10) : Int).toNat (⟨(rd_T43 y114 (ji10)).f0, (rd_T43 y114 (ji10)).f1, (rd_T43 y114 (ji10)).f2, wrap64 (((rd_T43 y114 (ji10)).f3) + ((rd_T43 l0 x22_1).f3))⟩ : S43)) l0 (l0.length : Int) (wrap64 (x22_1 + 1))) = some (r1, r2) := by first | (rw [hy114]; with_reducible exact H) | (have H2_ := (Option.bind_some _ _).symm.trans H; rw [hy114]; with_reducible exact H2_) | (have H2_ := (Option.bind_some _ _).symm.trans H; with_reducible exact H2_) | with_reducible exact H | (rw [hy114]; exact H) | exact H
           have Ny114 := Aside0.mk hy114
           clear hy114
           obtain ⟨y116, hy116⟩ : ∃ y_ : List (S43), y_ = (y114.set ((ji10) : Int).toNat (⟨(rd_T43 y114 (ji10)).f0, (rd_T43 y114 (ji10)).f1, (rd_T43 y114 (ji10)).f2, wrap64 (((rd_T43 y114 (ji10)).f3) + ((rd_T43 l0 x22_1).f3))⟩ : S43)) := ⟨_, rfl⟩
           replace H : (edits_Normal.l0 k1 y116 l0 (l0.length : Int) (wrap64 (x22_1 + 1))) = some (r1, r2) := by first | (rw [hy116]; with_reducible exact H) | (have H2_ := (Option.bind_some _ _).symm.trans H; rw [hy116]; with_reducible exact H2_) | (have H2_ := (Option.bind_some _ _).symm.trans H; with_reducible exact H2_) | with_reducible exact H | (rw [hy116]; exact H) | exact H
           have Ny116 := Aside0.mk hy116
           clear hy116
           have H' := Aside0.mk H
           clear H
           have p109 : 0 ≤ (x22_1 : Int) := ofDec
           have q109 : x22_1 < (l0.length : Int) := ofDec
           obtain ⟨ad109, e109, hx109_0, hx109_1, hx109_2, hx109_3⟩ := at_T43 HR0.out x22_1 p109 q109
           cases e109
           replace hx109_0 := (HB.out.cell (World.block_lt_of_cell? w _ hx109_0)).trans hx109_0
           replace hx109_1 := (HB.out.cell (World.block_lt_of_cell? w _ hx109_1)).trans hx109_1
           replace hx109_2 := (HB.out.cell (World.block_lt_of_cell? w _ hx109_2)).trans hx109_2
           replace hx109_3 := (HB.out.cell (World.block_lt_of_cell? w _ hx109_3)).trans hx109_3
           replace p109 := eq_true p109
           replace q109 := eq_true q109
           try go_wp2_with (first | ((with_reducible refine gate_dst (N := 11) rfl ?_); refine box_event ?hg (N := 11) ?hd (cs := #[.int .i64 0, .int .i64 0, .int .i64 0, .int .i64 0]) (t := 43) ?hr ?_; (case hd => rfl); (case hg => rfl); (case hr => first | (go_simp; done) | (go_simp; rfl)); intro gb110 hg w16 hbox hb; have n0_ := Aside0.mk (Kd.R_below (Kd.R_elderB (kdUp HO_9.out) gb110 (Nat.le_of_eq hg.symm)) hb); have n1_ := Aside0.mk (below_step belNow hb); have n2_ := Aside0.mk (hbox); have n3_ := Aside0.mk ((by rw [hg]; exact (below_size belNow) : w.heap.size ≤ gb110)); have n4_ := Aside0.mk ((by rw [hg]; exact (below_size belNow) : w.heap.size ≤ gb110)); clear HO_9; clear HB; have HO_9 := n0_; have HB := n1_; have BK110 := n2_; have GW110 := n3_; have GE110 := n4_; clear n0_ n1_ n2_ n3_ n4_; clear hb hbox hg; have hcz17_0 : w16.cell? ⟨gb110, 0, none⟩ = some (.int .i64 0) := (blk_cell BK110.out 0).trans rfl; have hcz17_1 : w16.cell? ⟨gb110, 1, none⟩ = some (.int .i64 0) := (blk_cell BK110.out 1).trans rfl; have hcz17_2 : w16.cell? ⟨gb110, 2, none⟩ = some (.int .i64 0) := (blk_cell BK110.out 2).trans rfl; have hcz17_3 : w16.cell? ⟨gb110, 3, none⟩ = some (.int .i64 0) := (blk_cell BK110.out 3).trans rfl; have hfz17_0 := blk_frozen BK110.out 0; have hfz17_1 := blk_frozen BK110.out 1; have hfz17_2 := blk_frozen BK110.out 2; have hfz17_3 := blk_frozen BK110.out 3; obtain ⟨Ao18, co18, eo18⟩ := Kd.R_slice HO_9.out; subst eo18))
           have n0_ : Aside0 (Kd.R k43 43 ((((w16.setCell ⟨gb110, 0, none⟩ (.int .i64 ((rd_T43 l0 x22_1).f0))).setCell ⟨gb110, 1, none⟩ (.int .i64 ((rd_T43 l0 x22_1).f1))).setCell ⟨gb110, 2, none⟩ (.int .i64 ((rd_T43 l0 x22_1).f2))).setCell ⟨gb110, 3, none⟩ (.int .i64 ((rd_T43 l0 x22_1).f3))) w.heap.size (fun k_ => k_ ≠ gb110) (.slice Ao18 x9_1.length co18) x9_1) := ⟨by (with_reducible repeat (first | apply Kd.R_alloc | apply Kd.R_drewN | apply Kd.R_drew)); exact Kd.R_mono (Kd.R_far (p := ⟨gb110, 3, none⟩) (Kd.R_far (p := ⟨gb110, 2, none⟩) (Kd.R_far (p := ⟨gb110, 1, none⟩) (Kd.R_far (p := ⟨gb110, 0, none⟩) (Kd.R_mono HO_9.out (fun k_ hk => (⟨hk, hk.2⟩ : _ ∧ k_ ≠ gb110))) (fun _ hk => hk.2) (.int .i64 ((rd_T43 l0 x22_1).f0))) (fun _ hk => hk.2) (.int .i64 ((rd_T43 l0 x22_1).f1))) (fun _ hk => hk.2) (.int .i64 ((rd_T43 l0 x22_1).f2))) (fun _ hk => hk.2) (.int .i64 ((rd_T43 l0 x22_1).f3))) (fun _ hk => hk.1.2)⟩
           have n1_ : Aside0 (((((w16.setCell ⟨gb110, 0, none⟩ (.int .i64 ((rd_T43 l0 x22_1).f0))).setCell ⟨gb110, 1, none⟩ (.int .i64 ((rd_T43 l0 x22_1).f1))).setCell ⟨gb110, 2, none⟩ (.int .i64 ((rd_T43 l0 x22_1).f2))).setCell ⟨gb110, 3, none⟩ (.int .i64 ((rd_T43 l0 x22_1).f3))).heap[gb110]? = some (.cells #[.int .i64 ((rd_T43 l0 x22_1).f0), .int .i64 ((rd_T43 l0 x22_1).f1), .int .i64 ((rd_T43 l0 x22_1).f2), .int .i64 ((rd_T43 l0 x22_1).f3)] 43 (0, 0))) := ⟨by (with_reducible repeat (first | refine blk_drewN ?_ _ | refine blk_drew ?_ | refine blk_alloc ?_ _)); refine blk_put (cs := #[.int .i64 ((rd_T43 l0 x22_1).f0), .int .i64 ((rd_T43 l0 x22_1).f1), .int .i64 ((rd_T43 l0 x22_1).f2), .int .i64 0]) ?_ 3 _ rfl; (with_reducible repeat (first | refine blk_drewN ?_ _ | refine blk_drew ?_ | refine blk_alloc ?_ _)); refine blk_put (cs := #[.int .i64 ((rd_T43 l0 x22_1).f0), .int .i64 ((rd_T43 l0 x22_1).f1), .int .i64 0, .int .i64 0]) ?_ 2 _ rfl; (with_reducible repeat (first | refine blk_drewN ?_ _ | refine blk_drew ?_ | refine blk_alloc ?_ _)); refine blk_put (cs := #[.int .i64 ((rd_T43 l0 x22_1).f0), .int .i64 0, .int .i64 0, .int .i64 0]) ?_ 1 _ rfl; (with_reducible repeat (first | refine blk_drewN ?_ _ | refine blk_drew ?_ | refine blk_alloc ?_ _)); refine blk_put (cs := #[.int .i64 0, .int .i64 0, .int .i64 0, .int .i64 0]) ?_ 0 _ rfl; (with_reducible repeat (first | refine blk_drewN ?_ _ | refine blk_drew ?_ | refine blk_alloc ?_ _)); exact BK110.out⟩
           have n2_ : Aside0 (Below w.heap.size w ((((w16.setCell ⟨gb110, 0, none⟩ (.int .i64 ((rd_T43 l0 x22_1).f0))).setCell ⟨gb110, 1, none⟩ (.int .i64 ((rd_T43 l0 x22_1).f1))).setCell ⟨gb110, 2, none⟩ (.int .i64 ((rd_T43 l0 x22_1).f2))).setCell ⟨gb110, 3, none⟩ (.int .i64 ((rd_T43 l0 x22_1).f3)))) := ⟨belPut⟩
           (try clear HO_9)
           (try clear BK110)
           (try clear HB)
           generalize ((((w16.setCell ⟨gb110, 0, none⟩ (.int .i64 ((rd_T43 l0 x22_1).f0))).setCell ⟨gb110, 1, none⟩ (.int .i64 ((rd_T43 l0 x22_1).f1))).setCell ⟨gb110, 2, none⟩ (.int .i64 ((rd_T43 l0 x22_1).f2))).setCell ⟨gb110, 3, none⟩ (.int .i64 ((rd_T43 l0 x22_1).f3))) = w19 at n0_ n1_ n2_ ⊢
           have HO_9 := n0_
           have BK110 := n1_
           have HB := n2_
           clear n0_ n1_ n2_
           have n0_ := Aside0.mk (Kd.R_drew HO_9.out)
           have n1_ := Aside0.mk (blk_drew BK110.out)
           have n2_ := Aside0.mk (below_drew1 HB.out)
           clear HO_9
           clear BK110
           clear HB
           have HO_9 := n0_
           have BK110 := n1_
           have HB := n2_
           clear n0_ n1_ n2_
           have p111 : 0 ≤ ((ji10) : Int) := ofDec
           have q111 : (ji10) < (x9_1.length : Int) := ofDec
           obtain ⟨ad111, e111, hx111_0, hx111_1, hx111_2, hx111_3⟩ := at_T43 (Kd.R_reads' HO_9.out).2.2 (ji10) p111 q111
           cases e111
           replace p111 := eq_true p111
           replace q111 := eq_true q111
           have p112 : 0 ≤ ((ji10) : Int) := ofDec
           have q112 : (ji10) < (x9_1.length : Int) := ofDec
           obtain ⟨ad112, e112, hx112_0, hx112_1, hx112_2, hx112_3⟩ := at_T43 (Kd.R_reads' HO_9.out).2.2 (ji10) p112 q112
           obtain rfl : ad111 = ad112 := (by injection e112)
           replace p112 := eq_true p112
           replace q112 := eq_true q112
           refine start_ (n := 18) (S := fun w' => w'.cell? ⟨gb110, 0, none⟩ = some (.int .i64 ((rd_T43 l0 x22_1).f0)) ∧ w'.cell? ⟨gb110, 1, none⟩ = some (.int .i64 ((rd_T43 l0 x22_1).f1)) ∧ w'.cell? ⟨gb110, 2, none⟩ = some (.int .i64 ((rd_T43 l0 x22_1).f2)) ∧ w'.cell? ⟨gb110, 3, none⟩ = some (.int .i64 ((rd_T43 l0 x22_1).f3)) ∧ w'.cell? (ad111.add (((ji10)).toNat * 4)) = some (.int .i64 ((rd_T43 x9_1 (ji10)).f0)) ∧ w'.cell? ⟨(ad111.add (((ji10)).toNat * 4)).block, (ad111.add (((ji10)).toNat * 4)).off + 1, none⟩ = some (.int .i64 ((rd_T43 x9_1 (ji10)).f1)) ∧ w'.cell? ⟨(ad111.add (((ji10)).toNat * 4)).block, (ad111.add (((ji10)).toNat * 4)).off + 2, none⟩ = some (.int .i64 ((rd_T43 x9_1 (ji10)).f2)) ∧ w'.cell? ⟨(ad111.add (((ji10)).toNat * 4)).block, (ad111.add (((ji10)).toNat * 4)).off + 3, none⟩ = some (.int .i64 ((rd_T43 x9_1 (ji10)).f3)) ∧ w'.cell? (ad111.add (((ji10)).toNat * 4)) = some (.int .i64 ((rd_T43 x9_1 (ji10)).f0)) ∧ w'.cell? ⟨(ad111.add (((ji10)).toNat * 4)).block, (ad111.add (((ji10)).toNat * 4)).off + 1, none⟩ = some (.int .i64 ((rd_T43 x9_1 (ji10)).f1)) ∧ w'.cell? ⟨(ad111.add (((ji10)).toNat * 4)).block, (ad111.add (((ji10)).toNat * 4)).off + 2, none⟩ = some (.int .i64 ((rd_T43 x9_1 (ji10)).f2)) ∧ w'.cell? ⟨(ad111.add (((ji10)).toNat * 4)).block, (ad111.add (((ji10)).toNat * 4)).off + 3, none⟩ = some (.int .i64 ((rd_T43 x9_1 (ji10)).f3))) (ds := []) #[false, false, false, false, false, false, false, false, false, false, false, false, false, false, false, false, false, false] (by kernel_rfl) rfl rfl ⟨(blk_cell BK110.out 0).trans rfl, (blk_cell BK110.out 1).trans rfl, (blk_cell BK110.out 2).trans rfl, (blk_cell BK110.out 3).trans rfl, hx111_0, hx111_1, hx111_2, hx111_3, hx112_0, hx112_1, hx112_2, hx112_3⟩ (fun hHeld => ?_); refine with_tabW edits_Normal.tab9 edits_Normal.bits9 (fun HT_ HW_ => ?_)
           generalize w19.drew = w20 at HO_9 BK110 HB hx111_0 hx111_1 hx111_2 hx111_3 hx112_0 hx112_1 hx112_2 hx112_3 hHeld ⊢
           refine pure_ (i := 0) (N := some 29) (v := ?_) (a' := ?_) #[true, false, false, false, false, false, false, false, false, false, false, false, false, false, false, false, false, false] rfl rfl (any_of HT_.out (by kernel_rfl)) (fun _ _ _ h => h) (Or.inl ⟨by rfl, ?_⟩) ?_ ?_
           rotate_left
           ·intro w'
            go_simp
            with_reducible rfl
           rotate_left
           ·simp only [Act.put, List.setIfInBounds_toArray, List.set_cons_zero, List.set_cons_succ, i64_w, i32_w]
            rfl
           refine pure_ (i := 1) (N := some 30) (v := ?_) (a' := ?_) #[true, true, false, false, false, false, false, false, false, false, false, false, false, false, false, false, false, false] rfl rfl (any_of HT_.out (by kernel_rfl)) (fun _ _ _ h => h) (Or.inl ⟨by rfl, ?_⟩) ?_ ?_
           rotate_left
           ·intro w'
            go_simp
            with_reducible rfl
           rotate_left
           ·simp only [Act.put, List.setIfInBounds_toArray, List.set_cons_zero, List.set_cons_succ, i64_w, i32_w]
            rfl
           refine pure_ (i := 2) (N := some 31) (v := ?_) (a' := ?_) #[true, true, true, false, false, false, false, false, false, false, false, false, false, false, false, false, false, false] rfl rfl (any_of HT_.out (by kernel_rfl)) (fun _ _ _ h => h) (Or.inl ⟨by rfl, ?_⟩) ?_ ?_
           rotate_left
           ·intro w'
            go_simp
            with_reducible rfl
           rotate_left
           ·simp only [Act.put, List.setIfInBounds_toArray, List.set_cons_zero, List.set_cons_succ, i64_w, i32_w]
            rfl
           refine pure_ (i := 3) (N := some 32) (v := ?_) (a' := ?_) #[true, true, true, true, false, false, false, false, false, false, false, false, false, false, false, false, false, false] rfl rfl (any_of HT_.out (by kernel_rfl)) (fun _ _ _ h => h) (Or.inl ⟨by rfl, ?_⟩) ?_ ?_
           rotate_left
           ·intro w'
            go_simp
            with_reducible rfl
           rotate_left
           ·simp only [Act.put, List.setIfInBounds_toArray, List.set_cons_zero, List.set_cons_succ, i64_w, i32_w]
            rfl
           refine pure_ (i := 4) (N := some 33) (v := ?_) (a' := ?_) #[true, true, true, true, true, false, false, false, false, false, false, false, false, false, false, false, false, false] rfl rfl (any_of HT_.out (by kernel_rfl)) (fun _ _ _ h => h) (Or.inl ⟨by rfl, ?_⟩) ?_ ?_
           rotate_left
           ·intro w'
            go_simp
            with_reducible rfl
           rotate_left
           ·simp only [Act.put, List.setIfInBounds_toArray, List.set_cons_zero, List.set_cons_succ, i64_w, i32_w]
            rfl
           refine pure_ (i := 5) (N := some 34) (v := ?_) (a' := ?_) #[true, true, true, true, true, true, false, false, false, false, false, false, false, false, false, false, false, false] rfl rfl (any_of HT_.out (by kernel_rfl)) (fun _ _ _ h => h) (Or.inl ⟨by rfl, ?_⟩) ?_ ?_
           rotate_left
           ·intro w'
            go_simp
            with_reducible rfl
           rotate_left
           ·simp only [Act.put, List.setIfInBounds_toArray, List.set_cons_zero, List.set_cons_succ, i64_w, i32_w]
            rfl
           refine pure_ (i := 6) (N := some 35) (v := ?_) (a' := ?_) #[true, true, true, true, true, true, true, false, false, false, false, false, false, false, false, false, false, false] rfl rfl (any_of HT_.out (by kernel_rfl)) (fun _ _ _ h => h) (Or.inl ⟨by rfl, ?_⟩) ?_ ?_
           rotate_left
           ·intro w'
            go_simp
            with_reducible rfl
           rotate_left
           ·simp only [Act.put, List.setIfInBounds_toArray, List.set_cons_zero, List.set_cons_succ, i64_w, i32_w]
            rfl
           refine pure_ (i := 8) (N := some 37) (v := ?_) (a' := ?_) #[true, true, true, true, true, true, true, false, true, false, false, false, false, false, false, false, false, false] rfl rfl (any_of HT_.out (by kernel_rfl)) (fun _ _ _ h => h) (Or.inl ⟨by rfl, ?_⟩) ?_ ?_
           rotate_left
           ·intro w'
            go_simp
            with_reducible rfl
           rotate_left
           ·simp only [Act.put, List.setIfInBounds_toArray, List.set_cons_zero, List.set_cons_succ, i64_w, i32_w]
            rfl
           refine pure_ (i := 9) (N := some 38) (v := ?_) (a' := ?_) #[true, true, true, true, true, true, true, false, true, true, false, false, false, false, false, false, false, false] rfl rfl (any_of HT_.out (by kernel_rfl)) (fun _ _ _ h => h) (Or.inl ⟨by rfl, ?_⟩) ?_ ?_
           rotate_left
           ·intro w'
            go_simp
            with_reducible rfl
           rotate_left
           ·simp only [Act.put, List.setIfInBounds_toArray, List.set_cons_zero, List.set_cons_succ, i64_w, i32_w]
            rfl
           refine pure_ (i := 10) (N := some 39) (v := ?_) (a' := ?_) #[true, true, true, true, true, true, true, false, true, true, true, false, false, false, false, false, false, false] rfl rfl (any_of HT_.out (by kernel_rfl)) (fun _ _ _ h => h) (Or.inl ⟨by rfl, ?_⟩) ?_ ?_
           rotate_left
           ·intro w'
            go_simp
            with_reducible rfl
           rotate_left
           ·simp only [Act.put, List.setIfInBounds_toArray, List.set_cons_zero, List.set_cons_succ, i64_w, i32_w]
            rfl
           refine pure_ (i := 11) (N := some 40) (v := ?_) (a' := ?_) #[true, true, true, true, true, true, true, false, true, true, true, true, false, false, false, false, false, false] rfl rfl (any_of HT_.out (by kernel_rfl)) (fun _ _ _ h => h) (Or.inl ⟨by rfl, ?_⟩) ?_ ?_
           rotate_left
           ·intro w'
            go_simp
            with_reducible rfl
           rotate_left
           ·simp only [Act.put, List.setIfInBounds_toArray, List.set_cons_zero, List.set_cons_succ, i64_w, i32_w]
            rfl
           refine pure_ (i := 14) (N := some 43) (v := ?_) (a' := ?_) #[true, true, true, true, true, true, true, false, true, true, true, true, false, false, true, false, false, false] rfl rfl (any_of HT_.out (by kernel_rfl)) (fun _ _ _ h => h) (Or.inl ⟨by rfl, ?_⟩) ?_ ?_
           rotate_left
           ·intro w'
            go_simp
            with_reducible rfl
           rotate_left
           ·simp only [Act.put, List.setIfInBounds_toArray, List.set_cons_zero, List.set_cons_succ, i64_w, i32_w]
            rfl
           refine take_ (i := 7) (N := some 36) (v := ?_) (a' := ?_) #[true, true, true, true, true, true, true, true, true, true, true, true, false, false, true, false, false, false] rfl rfl (take_ofW HT_.out HW_.out (by kernel_rfl)) (fun _ _ _ h => h) (Or.inl ⟨by rfl, ?_⟩) hHeld ?_ ?_
           rotate_left
           ·rintro w' ⟨s0, s1, s2, s3, s4, s5, s6, s7, s8, s9, s10, s11⟩
            go_simp
            with_reducible rfl
           rotate_left
           ·simp only [Act.put, List.setIfInBounds_toArray, List.set_cons_zero, List.set_cons_succ, i64_w, i32_w]
            rfl
           refine take_ (i := 12) (N := some 41) (v := ?_) (a' := ?_) #[true, true, true, true, true, true, true, true, true, true, true, true, true, false, true, false, false, false] rfl rfl (take_ofW HT_.out HW_.out (by kernel_rfl)) (fun _ _ _ h => h) (Or.inl ⟨by rfl, ?_⟩) hHeld ?_ ?_
           rotate_left
           ·rintro w' ⟨s0, s1, s2, s3, s4, s5, s6, s7, s8, s9, s10, s11⟩
            go_simp
            with_reducible rfl
           rotate_left
           ·simp only [Act.put, List.setIfInBounds_toArray, List.set_cons_zero, List.set_cons_succ, i64_w, i32_w]
            rfl
           refine pure_ (i := 13) (N := some 42) (v := ?_) (a' := ?_) #[true, true, true, true, true, true, true, true, true, true, true, true, true, true, true, false, false, false] rfl rfl (any_of HT_.out (by kernel_rfl)) (fun _ _ _ h => h) (Or.inl ⟨by rfl, ?_⟩) ?_ ?_
           rotate_left
           ·intro w'
            go_simp
            with_reducible rfl
           rotate_left
           ·simp only [Act.put, List.setIfInBounds_toArray, List.set_cons_zero, List.set_cons_succ, i64_w, i32_w]
            rfl
           refine take_ (i := 15) (N := some 44) (v := ?_) (a' := ?_) #[true, true, true, true, true, true, true, true, true, true, true, true, true, true, true, true, false, false] rfl rfl (take_ofW HT_.out HW_.out (by kernel_rfl)) (fun _ _ _ h => h) (Or.inl ⟨by rfl, ?_⟩) hHeld ?_ ?_
           rotate_left
           ·rintro w' ⟨s0, s1, s2, s3, s4, s5, s6, s7, s8, s9, s10, s11⟩
            go_simp
            with_reducible rfl
           rotate_left
           ·simp only [Act.put, List.setIfInBounds_toArray, List.set_cons_zero, List.set_cons_succ, i64_w, i32_w]
            rfl
           refine pure_ (i := 16) (N := some 45) (v := ?_) (a' := ?_) #[true, true, true, true, true, true, true, true, true, true, true, true, true, true, true, true, true, false] rfl rfl (any_of HT_.out (by kernel_rfl)) (fun _ _ _ h => h) (Or.inl ⟨by rfl, ?_⟩) ?_ ?_
           rotate_left
           ·intro w'
            go_simp
            with_reducible rfl
           rotate_left
           ·simp only [Act.put, List.setIfInBounds_toArray, List.set_cons_zero, List.set_cons_succ, i64_w, i32_w]
            rfl
           refine pure_ (i := 17) (N := some 46) (v := ?_) (a' := ?_) #[true, true, true, true, true, true, true, true, true, true, true, true, true, true, true, true, true, true] rfl rfl (any_of HT_.out (by kernel_rfl)) (fun _ _ _ h => h) (Or.inl ⟨by rfl, ?_⟩) ?_ ?_
           rotate_left
           ·intro w'
            go_simp
            with_reducible rfl
           rotate_left
           ·simp only [Act.put, List.setIfInBounds_toArray, List.set_cons_zero, List.set_cons_succ, i64_w, i32_w]
            rfl
           refine done_ (done_of HT_.out (by kernel_rfl)) ?_
           try go_wp2
           have n0_ := Aside0.mk (Kd.R_drew HO_9.out)
           have n1_ := Aside0.mk (blk_drew BK110.out)
           have n2_ := Aside0.mk (below_drew1 HB.out)
           clear HO_9
           clear BK110
           clear HB
           have HO_9 := n0_
           have BK110 := n1_
           have HB := n2_
           clear n0_ n1_ n2_
           have p113 : 0 ≤ ((ji10) : Int) := ofDec
           have q113 : (ji10) < (x9_1.length : Int) := ofDec
           obtain ⟨ad113, e113, hx113_0, hx113_1, hx113_2, hx113_3⟩ := at_T43 (Kd.R_reads' HO_9.out).2.2 (ji10) p113 q113
           obtain rfl : ad111 = ad113 := (by injection e113)
           replace p113 := eq_true p113
           replace q113 := eq_true q113
           have p14 : 0 ≤ ((ji10) : Int) := ofDec
           have q14 : ((ji10) : Int) < ((x9_1.length : Int) : Int) := ofDec
           obtain ⟨go14, co14, eo14, gb14, gl14, cl14, HG14⟩ := Kd.R_form HO_9.out (by omega)
           (first | cases eo14 | (injection eo14 with ea_ en_ ec_; (first | subst ea_ | (injection ea_ with ea_; subst ea_)); subst ec_; clear en_))
           have GB14 := Aside0.mk gb14
           have GG14 := Aside0.mk HG14
           clear gb14 gl14 HG14
           (first | simp only [add_plain] at hx111_0 | skip)
           (first | simp only [add_plain] at hx111_1 | skip)
           (first | simp only [add_plain] at hx111_2 | skip)
           (first | simp only [add_plain] at hx111_3 | skip)
           (first | simp only [add_plain] at hx112_0 | skip)
           (first | simp only [add_plain] at hx112_1 | skip)
           (first | simp only [add_plain] at hx112_2 | skip)
           (first | simp only [add_plain] at hx112_3 | skip)
           (first | simp only [add_plain] at hx113_0 | skip)
           (first | simp only [add_plain] at hx113_1 | skip)
           (first | simp only [add_plain] at hx113_2 | skip)
           (first | simp only [add_plain] at hx113_3 | skip)
           obtain ⟨ce14, hcl14, hM14, hcc14, hfr14⟩ := Kd.R_elem HO_9.out z43 ((ji10) : Int) p14 q14
           obtain rfl := k43_openM hM14
           have hx14_0 : World.cell? _ ⟨go14, ((ji10) : Int).toNat * 4, none⟩ = some (.int .i64 ((rd_T43 x9_1 (ji10)).f0)) := hcc14 0 _ rfl
           have hx14_1 : World.cell? _ ⟨go14, ((ji10) : Int).toNat * 4 + 1, none⟩ = some (.int .i64 ((rd_T43 x9_1 (ji10)).f1)) := hcc14 1 _ rfl
           have hx14_2 : World.cell? _ ⟨go14, ((ji10) : Int).toNat * 4 + 2, none⟩ = some (.int .i64 ((rd_T43 x9_1 (ji10)).f2)) := hcc14 2 _ rfl
           have hx14_3 : World.cell? _ ⟨go14, ((ji10) : Int).toNat * 4 + 3, none⟩ = some (.int .i64 ((rd_T43 x9_1 (ji10)).f3)) := hcc14 3 _ rfl
           have hf14_0 : World.frozen? _ ⟨go14, ((ji10) : Int).toNat * 4, none⟩ = false := hfr14 0
           have hf14_1 : World.frozen? _ ⟨go14, ((ji10) : Int).toNat * 4 + 1, none⟩ = false := hfr14 1
           have hf14_2 : World.frozen? _ ⟨go14, ((ji10) : Int).toNat * 4 + 2, none⟩ = false := hfr14 2
           have hf14_3 : World.frozen? _ ⟨go14, ((ji10) : Int).toNat * 4 + 3, none⟩ = false := hfr14 3
           clear hcl14 hcc14 hfr14 hM14
           replace p14 := eq_true p14
           replace q14 := eq_true q14
           obtain ⟨ce22, hcl22, hM22, hcc22, hfr22⟩ := Kd.R_elem HO_9.out z43 ((ji10) : Int) (ofDec) (by have h_ : ((ji10) : Int) < ((x9_1.length : Int) : Int) := ofDec; first | exact h_ | (have e_ := (Kd.R_reads' HO_9.out).1; omega) | simpa using h_)
           obtain rfl := k43_openM hM22
           have HP22 := (Kd.R_seg HO_9.out ((ji10) : Int) (ofDec) (by have h_ : ((ji10) : Int) < ((x9_1.length : Int) : Int) := ofDec; first | exact h_ | (have e_ := (Kd.R_reads' HO_9.out).1; omega) | simpa using h_) (seg := [.int .i64 (wrap64 (((rd_T43 x9_1 (ji10)).f1) + ((rd_T43 l0 x22_1).f1)))]) (j := 1) hcl22 hcc22 (show 2 ≤ 4 from by decide) (x' := (⟨(rd_T43 x9_1 (ji10)).f0, wrap64 (((rd_T43 x9_1 (ji10)).f1) + ((rd_T43 l0 x22_1).f1)), (rd_T43 x9_1 (ji10)).f2, (rd_T43 x9_1 (ji10)).f3⟩ : S43)) (k43_mkM _ _ _ (⟨(rd_T43 x9_1 (ji10)).f0, wrap64 (((rd_T43 x9_1 (ji10)).f1) + ((rd_T43 l0 x22_1).f1)), (rd_T43 x9_1 (ji10)).f2, (rd_T43 x9_1 (ji10)).f3⟩ : S43) ) (fun _ hk => hk)).1
           rw [← Ny114.out] at HP22
           have HQ22 := Aside0.mk HP22
           clear hcl22 hcc22 hfr22 hM22 HP22
           refine start_ (n := 11) (S := fun w' => w'.cell? ⟨gb110, 0, none⟩ = some (.int .i64 ((rd_T43 l0 x22_1).f0)) ∧ w'.cell? ⟨gb110, 1, none⟩ = some (.int .i64 ((rd_T43 l0 x22_1).f1)) ∧ w'.cell? ⟨gb110, 2, none⟩ = some (.int .i64 ((rd_T43 l0 x22_1).f2)) ∧ w'.cell? ⟨gb110, 3, none⟩ = some (.int .i64 ((rd_T43 l0 x22_1).f3)) ∧ w'.cell? ⟨go14, (ji10).toNat * 4, none⟩ = some (.int .i64 ((rd_T43 x9_1 (ji10)).f0)) ∧ w'.cell? ⟨go14, (ji10).toNat * 4 + 1, none⟩ = some (.int .i64 ((rd_T43 x9_1 (ji10)).f1)) ∧ w'.cell? ⟨go14, (ji10).toNat * 4 + 2, none⟩ = some (.int .i64 ((rd_T43 x9_1 (ji10)).f2)) ∧ w'.cell? ⟨go14, (ji10).toNat * 4 + 3, none⟩ = some (.int .i64 ((rd_T43 x9_1 (ji10)).f3))) (ds := [10]) #[false, false, false, false, false, false, false, false, false, false, false] (by kernel_rfl) rfl rfl ⟨(blk_cell BK110.out 0).trans rfl, (blk_cell BK110.out 1).trans rfl, (blk_cell BK110.out 2).trans rfl, (blk_cell BK110.out 3).trans rfl, hx113_0, hx113_1, hx113_2, hx113_3⟩ (fun hHeld => ?_); refine with_tabW edits_Normal.tab10 edits_Normal.bits10 (fun HT_ HW_ => ?_)
           generalize w20.drew = w21 at HO_9 BK110 HB GG14 HQ22 hf14_0 hf14_1 hf14_2 hf14_3 hx111_0 hx111_1 hx111_2 hx111_3 hx112_0 hx112_1 hx112_2 hx112_3 hx113_0 hx113_1 hx113_2 hx113_3 hx14_0 hx14_1 hx14_2 hx14_3 hHeld ⊢
           refine pure_ (i := 0) (N := some 47) (v := ?_) (a' := ?_) #[true, false, false, false, false, false, false, false, false, false, false] rfl rfl (any_of HT_.out (by kernel_rfl)) (fun _ _ _ h => h) (Or.inl ⟨by rfl, ?_⟩) ?_ ?_
           rotate_left
           ·intro w'
            go_simp
            with_reducible rfl
           rotate_left
           ·simp only [Act.put, List.setIfInBounds_toArray, List.set_cons_zero, List.set_cons_succ, i64_w, i32_w]
            rfl
           refine pure_ (i := 1) (N := some 48) (v := ?_) (a' := ?_) #[true, true, false, false, false, false, false, false, false, false, false] rfl rfl (any_of HT_.out (by kernel_rfl)) (fun _ _ _ h => h) (Or.inl ⟨by rfl, ?_⟩) ?_ ?_
           rotate_left
           ·intro w'
            go_simp
            with_reducible rfl
           rotate_left
           ·simp only [Act.put, List.setIfInBounds_toArray, List.set_cons_zero, List.set_cons_succ, i64_w, i32_w]
            rfl
           refine pure_ (i := 2) (N := some 49) (v := ?_) (a' := ?_) #[true, true, true, false, false, false, false, false, false, false, false] rfl rfl (any_of HT_.out (by kernel_rfl)) (fun _ _ _ h => h) (Or.inl ⟨by rfl, ?_⟩) ?_ ?_
           rotate_left
           ·intro w'
            go_simp
            with_reducible rfl
           rotate_left
           ·simp only [Act.put, List.setIfInBounds_toArray, List.set_cons_zero, List.set_cons_succ, i64_w, i32_w]
            rfl
           refine pure_ (i := 3) (N := some 50) (v := ?_) (a' := ?_) #[true, true, true, true, false, false, false, false, false, false, false] rfl rfl (any_of HT_.out (by kernel_rfl)) (fun _ _ _ h => h) (Or.inl ⟨by rfl, ?_⟩) ?_ ?_
           rotate_left
           ·intro w'
            go_simp
            with_reducible rfl
           rotate_left
           ·simp only [Act.put, List.setIfInBounds_toArray, List.set_cons_zero, List.set_cons_succ, i64_w, i32_w]
            rfl
           refine pure_ (i := 5) (N := some 52) (v := ?_) (a' := ?_) #[true, true, true, true, false, true, false, false, false, false, false] rfl rfl (any_of HT_.out (by kernel_rfl)) (fun _ _ _ h => h) (Or.inl ⟨by rfl, ?_⟩) ?_ ?_
           rotate_left
           ·intro w'
            go_simp
            with_reducible rfl
           rotate_left
           ·simp only [Act.put, List.setIfInBounds_toArray, List.set_cons_zero, List.set_cons_succ, i64_w, i32_w]
            rfl
           refine take_ (i := 4) (N := some 51) (v := ?_) (a' := ?_) #[true, true, true, true, true, true, false, false, false, false, false] rfl rfl (take_ofW HT_.out HW_.out (by kernel_rfl)) (fun _ _ _ h => h) (Or.inl ⟨by rfl, ?_⟩) hHeld ?_ ?_
           rotate_left
           ·rintro w' ⟨s0, s1, s2, s3, s4, s5, s6, s7⟩
            go_simp
            with_reducible rfl
           rotate_left
           ·simp only [Act.put, List.setIfInBounds_toArray, List.set_cons_zero, List.set_cons_succ, i64_w, i32_w]
            rfl
           refine take_ (i := 6) (N := some 53) (v := ?_) (a' := ?_) #[true, true, true, true, true, true, true, false, false, false, false] rfl rfl (take_ofW HT_.out HW_.out (by kernel_rfl)) (fun _ _ _ h => h) (Or.inl ⟨by rfl, ?_⟩) hHeld ?_ ?_
           rotate_left
           ·rintro w' ⟨s0, s1, s2, s3, s4, s5, s6, s7⟩
            go_simp
            with_reducible rfl
           rotate_left
           ·simp only [Act.put, List.setIfInBounds_toArray, List.set_cons_zero, List.set_cons_succ, i64_w, i32_w]
            rfl
           refine pure_ (i := 7) (N := some 54) (v := ?_) (a' := ?_) #[true, true, true, true, true, true, true, true, false, false, false] rfl rfl (any_of HT_.out (by kernel_rfl)) (fun _ _ _ h => h) (Or.inl ⟨by rfl, ?_⟩) ?_ ?_
           rotate_left
           ·intro w'
            go_simp
            with_reducible rfl
           rotate_left
           ·simp only [Act.put, List.setIfInBounds_toArray, List.set_cons_zero, List.set_cons_succ, i64_w, i32_w]
            rfl
           refine pure_ (i := 8) (N := some 55) (v := ?_) (a' := ?_) #[true, true, true, true, true, true, true, true, true, false, false] rfl rfl (any_of HT_.out (by kernel_rfl)) (fun _ _ _ h => h) (Or.inl ⟨by rfl, ?_⟩) ?_ ?_
           rotate_left
           ·intro w'
            go_simp
            with_reducible rfl
           rotate_left
           ·simp only [Act.put, List.setIfInBounds_toArray, List.set_cons_zero, List.set_cons_succ, i64_w, i32_w]
            rfl
           refine pure_ (i := 9) (N := some 56) (v := ?_) (a' := ?_) #[true, true, true, true, true, true, true, true, true, true, false] rfl rfl (any_of HT_.out (by kernel_rfl)) (fun _ _ _ h => h) (Or.inl ⟨by rfl, ?_⟩) ?_ ?_
           rotate_left
           ·intro w'
            go_simp
            with_reducible rfl
           rotate_left
           ·simp only [Act.put, List.setIfInBounds_toArray, List.set_cons_zero, List.set_cons_succ, i64_w, i32_w]
            rfl
           refine last_ (i := 10) (N := none) #[true, true, true, true, true, true, true, true, true, true, true] rfl rfl (one_of HT_.out (by kernel_rfl)) (by decide) (fun K hK => ?_)
           refine skip_ (w1 := ?_) (by rfl) rfl ?_ ?_
           rotate_left
           ·go_simp
            rfl
           refine hK.out _ _ ?_
           clear hK K
           refine done_ (done_of HT_.out (by kernel_rfl)) ?_
           try go_wp2
           have n0_ : Aside0 (Kd.R k43 43 (w21.setCell ⟨go14, ((ji10) : Int).toNat * 4 + 1, none⟩ (.int .i64 (wrap64 (((rd_T43 x9_1 (ji10)).f1) + ((rd_T43 l0 x22_1).f1))))) w.heap.size (fun k_ => k_ ≠ gb110) (.slice (some ⟨go14, 0, none⟩) x9_1.length co18) y114) := ⟨by (with_reducible repeat (first | apply Kd.R_alloc | apply Kd.R_drewN | apply Kd.R_drew)); exact HQ22.out⟩
           have n1_ : Aside0 ((w21.setCell ⟨go14, ((ji10) : Int).toNat * 4 + 1, none⟩ (.int .i64 (wrap64 (((rd_T43 x9_1 (ji10)).f1) + ((rd_T43 l0 x22_1).f1))))).heap[gb110]? = some (.cells #[.int .i64 ((rd_T43 l0 x22_1).f0), .int .i64 ((rd_T43 l0 x22_1).f1), .int .i64 ((rd_T43 l0 x22_1).f2), .int .i64 ((rd_T43 l0 x22_1).f3)] 43 (0, 0))) := ⟨by (with_reducible repeat (first | refine blk_drewN ?_ _ | refine blk_drew ?_ | refine blk_alloc ?_ _)); refine blk_far ?_ (by have h_ := Kd.R_away HO_9.out (fun _ hk => hk); intro e_; exact h_ (by rw [e_]; rfl)) _; (with_reducible repeat (first | refine blk_drewN ?_ _ | refine blk_drew ?_ | refine blk_alloc ?_ _)); exact BK110.out⟩
           have n2_ : Aside0 (Below w.heap.size w (w21.setCell ⟨go14, ((ji10) : Int).toNat * 4 + 1, none⟩ (.int .i64 (wrap64 (((rd_T43 x9_1 (ji10)).f1) + ((rd_T43 l0 x22_1).f1)))))) := ⟨by repeat (first | (with_reducible first | exact HB.out | apply below_alloc | apply pw_below_drewN | apply below_drew1 | refine below_set ?_ GB14.out | refine below_set ?_ GE110.out) | exact HB.out)⟩
           (try clear HO_9)
           (try clear BK110)
           (try clear HB)
           generalize (w21.setCell ⟨go14, ((ji10) : Int).toNat * 4 + 1, none⟩ (.int .i64 (wrap64 (((rd_T43 x9_1 (ji10)).f1) + ((rd_T43 l0 x22_1).f1))))) = w23 at n0_ n1_ n2_ ⊢
           have HO_9 := n0_
           have BK110 := n1_
           have HB := n2_
           clear n0_ n1_ n2_
           have n0_ := Aside0.mk (Kd.R_drew HO_9.out)
           have n1_ := Aside0.mk (blk_drew BK110.out)
           have n2_ := Aside0.mk (below_drew1 HB.out)
           clear HO_9
           clear BK110
           clear HB
           have HO_9 := n0_
           have BK110 := n1_
           have HB := n2_
           clear n0_ n1_ n2_
           have p115 : 0 ≤ ((ji10) : Int) := ofDec
           have q115 : (ji10) < (y114.length : Int) := (by have h_ : ((ji10) : Int) < ((x9_1.length : Int) : Int) := ofDec; first | (have e_ := (Kd.R_reads' HO_9.out).1; omega) | simpa only [Ny114.out, List.length_set] using h_)
           have ql115 : (((ji10) : Int) < ((x9_1.length : Int) : Int)) = True := eq_true (ofDec)
           obtain ⟨ad115, e115, hx115_0, hx115_1, hx115_2, hx115_3⟩ := at_T43 (Kd.R_reads' HO_9.out).2.2 (ji10) p115 q115
           obtain rfl : (⟨go14, 0, none⟩ : Addr) = ad115 := (by injection e115)
           (first | simp only [add_plain] at hx115_0 | simp only [add_at] at hx115_0 | simp only [Addr.add, Nat.zero_add] at hx115_0 | skip)
           (first | simp only [add_plain] at hx115_1 | simp only [add_at] at hx115_1 | simp only [Addr.add, Nat.zero_add] at hx115_1 | skip)
           (first | simp only [add_plain] at hx115_2 | simp only [add_at] at hx115_2 | simp only [Addr.add, Nat.zero_add] at hx115_2 | skip)
           (first | simp only [add_plain] at hx115_3 | simp only [add_at] at hx115_3 | simp only [Addr.add, Nat.zero_add] at hx115_3 | skip)
           replace p115 := eq_true p115
           replace q115 := eq_true q115
           have p15 : 0 ≤ ((ji10) : Int) := ofDec
           have q15 : ((ji10) : Int) < ((x9_1.length : Int) : Int) := ofDec
           obtain ⟨ce15, hcl15, hM15, hcc15, hfr15⟩ := Kd.R_elem HO_9.out z43 ((ji10) : Int) p15 q15
           obtain rfl := k43_openM hM15
           have hx15_0 : World.cell? _ ⟨go14, ((ji10) : Int).toNat * 4, none⟩ = some (.int .i64 ((rd_T43 y114 (ji10)).f0)) := hcc15 0 _ rfl
           have hx15_1 : World.cell? _ ⟨go14, ((ji10) : Int).toNat * 4 + 1, none⟩ = some (.int .i64 ((rd_T43 y114 (ji10)).f1)) := hcc15 1 _ rfl
           have hx15_2 : World.cell? _ ⟨go14, ((ji10) : Int).toNat * 4 + 2, none⟩ = some (.int .i64 ((rd_T43 y114 (ji10)).f2)) := hcc15 2 _ rfl
           have hx15_3 : World.cell? _ ⟨go14, ((ji10) : Int).toNat * 4 + 3, none⟩ = some (.int .i64 ((rd_T43 y114 (ji10)).f3)) := hcc15 3 _ rfl
           have hf15_0 : World.frozen? _ ⟨go14, ((ji10) : Int).toNat * 4, none⟩ = false := hfr15 0
           have hf15_1 : World.frozen? _ ⟨go14, ((ji10) : Int).toNat * 4 + 1, none⟩ = false := hfr15 1
           have hf15_2 : World.frozen? _ ⟨go14, ((ji10) : Int).toNat * 4 + 2, none⟩ = false := hfr15 2
           have hf15_3 : World.frozen? _ ⟨go14, ((ji10) : Int).toNat * 4 + 3, none⟩ = false := hfr15 3
           clear hcl15 hcc15 hfr15 hM15
           replace p15 := eq_true p15
           replace q15 := eq_true q15
           obtain ⟨ce25, hcl25, hM25, hcc25, hfr25⟩ := Kd.R_elem HO_9.out z43 ((ji10) : Int) (ofDec) (by have h_ : ((ji10) : Int) < ((x9_1.length : Int) : Int) := ofDec; first | exact h_ | (have e_ := (Kd.R_reads' HO_9.out).1; omega) | simpa using h_)
           obtain rfl := k43_openM hM25
           have HP25 := (Kd.R_seg HO_9.out ((ji10) : Int) (ofDec) (by have h_ : ((ji10) : Int) < ((x9_1.length : Int) : Int) := ofDec; first | exact h_ | (have e_ := (Kd.R_reads' HO_9.out).1; omega) | simpa using h_) (seg := [.int .i64 (wrap64 (((rd_T43 y114 (ji10)).f3) + ((rd_T43 l0 x22_1).f3)))]) (j := 3) hcl25 hcc25 (show 4 ≤ 4 from by decide) (x' := (⟨(rd_T43 y114 (ji10)).f0, (rd_T43 y114 (ji10)).f1, (rd_T43 y114 (ji10)).f2, wrap64 (((rd_T43 y114 (ji10)).f3) + ((rd_T43 l0 x22_1).f3))⟩ : S43)) (k43_mkM _ _ _ (⟨(rd_T43 y114 (ji10)).f0, (rd_T43 y114 (ji10)).f1, (rd_T43 y114 (ji10)).f2, wrap64 (((rd_T43 y114 (ji10)).f3) + ((rd_T43 l0 x22_1).f3))⟩ : S43) ) (fun _ hk => hk)).1
           rw [← Ny116.out] at HP25
           have HQ25 := Aside0.mk HP25
           clear hcl25 hcc25 hfr25 hM25 HP25
           refine start_ (n := 11) (S := fun w' => w'.cell? ⟨gb110, 0, none⟩ = some (.int .i64 ((rd_T43 l0 x22_1).f0)) ∧ w'.cell? ⟨gb110, 1, none⟩ = some (.int .i64 ((rd_T43 l0 x22_1).f1)) ∧ w'.cell? ⟨gb110, 2, none⟩ = some (.int .i64 ((rd_T43 l0 x22_1).f2)) ∧ w'.cell? ⟨gb110, 3, none⟩ = some (.int .i64 ((rd_T43 l0 x22_1).f3)) ∧ w'.cell? ⟨go14, ((ji10)).toNat * 4, none⟩ = some (.int .i64 ((rd_T43 y114 (ji10)).f0)) ∧ w'.cell? ⟨go14, ((ji10)).toNat * 4 + 1, none⟩ = some (.int .i64 ((rd_T43 y114 (ji10)).f1)) ∧ w'.cell? ⟨go14, ((ji10)).toNat * 4 + 2, none⟩ = some (.int .i64 ((rd_T43 y114 (ji10)).f2)) ∧ w'.cell? ⟨go14, ((ji10)).toNat * 4 + 3, none⟩ = some (.int .i64 ((rd_T43 y114 (ji10)).f3))) (ds := [10]) #[false, false, false, false, false, false, false, false, false, false, false] (by kernel_rfl) rfl rfl ⟨(blk_cell BK110.out 0).trans rfl, (blk_cell BK110.out 1).trans rfl, (blk_cell BK110.out 2).trans rfl, (blk_cell BK110.out 3).trans rfl, hx115_0, hx115_1, hx115_2, hx115_3⟩ (fun hHeld => ?_); refine with_tabW edits_Normal.tab11 edits_Normal.bits11 (fun HT_ HW_ => ?_)
           generalize w23.drew = w24 at HO_9 BK110 HB HQ22 HQ25 hf15_0 hf15_1 hf15_2 hf15_3 hx115_0 hx115_1 hx115_2 hx115_3 hx15_0 hx15_1 hx15_2 hx15_3 hHeld ⊢
           refine pure_ (i := 0) (N := some 57) (v := ?_) (a' := ?_) #[true, false, false, false, false, false, false, false, false, false, false] rfl rfl (any_of HT_.out (by kernel_rfl)) (fun _ _ _ h => h) (Or.inl ⟨by rfl, ?_⟩) ?_ ?_
           rotate_left
           ·intro w'
            go_simp
            with_reducible rfl
           rotate_left
           ·simp only [Act.put, List.setIfInBounds_toArray, List.set_cons_zero, List.set_cons_succ, i64_w, i32_w]
            rfl
           refine pure_ (i := 1) (N := some 58) (v := ?_) (a' := ?_) #[true, true, false, false, false, false, false, false, false, false, false] rfl rfl (any_of HT_.out (by kernel_rfl)) (fun _ _ _ h => h) (Or.inl ⟨by rfl, ?_⟩) ?_ ?_
           rotate_left
           ·intro w'
            go_simp
            with_reducible rfl
           rotate_left
           ·simp only [Act.put, List.setIfInBounds_toArray, List.set_cons_zero, List.set_cons_succ, i64_w, i32_w]
            rfl
           refine pure_ (i := 2) (N := some 59) (v := ?_) (a' := ?_) #[true, true, true, false, false, false, false, false, false, false, false] rfl rfl (any_of HT_.out (by kernel_rfl)) (fun _ _ _ h => h) (Or.inl ⟨by rfl, ?_⟩) ?_ ?_
           rotate_left
           ·intro w'
            go_simp
            with_reducible rfl
           rotate_left
           ·simp only [Act.put, List.setIfInBounds_toArray, List.set_cons_zero, List.set_cons_succ, i64_w, i32_w]
            rfl
           refine pure_ (i := 3) (N := some 60) (v := ?_) (a' := ?_) #[true, true, true, true, false, false, false, false, false, false, false] rfl rfl (any_of HT_.out (by kernel_rfl)) (fun _ _ _ h => h) (Or.inl ⟨by rfl, ?_⟩) ?_ ?_
           rotate_left
           ·intro w'
            go_simp
            with_reducible rfl
           rotate_left
           ·simp only [Act.put, List.setIfInBounds_toArray, List.set_cons_zero, List.set_cons_succ, i64_w, i32_w]
            rfl
           refine pure_ (i := 5) (N := some 62) (v := ?_) (a' := ?_) #[true, true, true, true, false, true, false, false, false, false, false] rfl rfl (any_of HT_.out (by kernel_rfl)) (fun _ _ _ h => h) (Or.inl ⟨by rfl, ?_⟩) ?_ ?_
           rotate_left
           ·intro w'
            go_simp
            with_reducible rfl
           rotate_left
           ·simp only [Act.put, List.setIfInBounds_toArray, List.set_cons_zero, List.set_cons_succ, i64_w, i32_w]
            rfl
           refine take_ (i := 4) (N := some 61) (v := ?_) (a' := ?_) #[true, true, true, true, true, true, false, false, false, false, false] rfl rfl (take_ofW HT_.out HW_.out (by kernel_rfl)) (fun _ _ _ h => h) (Or.inl ⟨by rfl, ?_⟩) hHeld ?_ ?_
           rotate_left
           ·rintro w' ⟨s0, s1, s2, s3, s4, s5, s6, s7⟩
            go_simp
            with_reducible rfl
           rotate_left
           ·simp only [Act.put, List.setIfInBounds_toArray, List.set_cons_zero, List.set_cons_succ, i64_w, i32_w]
            rfl
           refine take_ (i := 6) (N := some 63) (v := ?_) (a' := ?_) #[true, true, true, true, true, true, true, false, false, false, false] rfl rfl (take_ofW HT_.out HW_.out (by kernel_rfl)) (fun _ _ _ h => h) (Or.inl ⟨by rfl, ?_⟩) hHeld ?_ ?_
           rotate_left
           ·rintro w' ⟨s0, s1, s2, s3, s4, s5, s6, s7⟩
            go_simp
            with_reducible rfl
           rotate_left
           ·simp only [Act.put, List.setIfInBounds_toArray, List.set_cons_zero, List.set_cons_succ, i64_w, i32_w]
            rfl
           refine pure_ (i := 7) (N := some 64) (v := ?_) (a' := ?_) #[true, true, true, true, true, true, true, true, false, false, false] rfl rfl (any_of HT_.out (by kernel_rfl)) (fun _ _ _ h => h) (Or.inl ⟨by rfl, ?_⟩) ?_ ?_
           rotate_left
           ·intro w'
            go_simp
            with_reducible rfl
           rotate_left
           ·simp only [Act.put, List.setIfInBounds_toArray, List.set_cons_zero, List.set_cons_succ, i64_w, i32_w]
            rfl
           refine pure_ (i := 8) (N := some 65) (v := ?_) (a' := ?_) #[true, true, true, true, true, true, true, true, true, false, false] rfl rfl (any_of HT_.out (by kernel_rfl)) (fun _ _ _ h => h) (Or.inl ⟨by rfl, ?_⟩) ?_ ?_
           rotate_left
           ·intro w'
            go_simp
            with_reducible rfl
           rotate_left
           ·simp only [Act.put, List.setIfInBounds_toArray, List.set_cons_zero, List.set_cons_succ, i64_w, i32_w]
            rfl
           refine pure_ (i := 9) (N := some 66) (v := ?_) (a' := ?_) #[true, true, true, true, true, true, true, true, true, true, false] rfl rfl (any_of HT_.out (by kernel_rfl)) (fun _ _ _ h => h) (Or.inl ⟨by rfl, ?_⟩) ?_ ?_
           rotate_left
           ·intro w'
            go_simp
            with_reducible rfl
           rotate_left
           ·simp only [Act.put, List.setIfInBounds_toArray, List.set_cons_zero, List.set_cons_succ, i64_w, i32_w]
            rfl
           refine last_ (i := 10) (N := none) #[true, true, true, true, true, true, true, true, true, true, true] rfl rfl (one_of HT_.out (by kernel_rfl)) (by decide) (fun K hK => ?_)
           refine skip_ (w1 := ?_) (by rfl) rfl ?_ ?_
           rotate_left
           ·go_simp
            rfl
           refine hK.out _ _ ?_
           clear hK K
           refine done_ (done_of HT_.out (by kernel_rfl)) ?_
           try go_wp2
           go_roundg k1
           case measure => have := HK1.out; omega
           case rel => exact ⟨(y116), (wrap64 (x22_1 + 1)), eqNow, H', ⟨by have := HK1.out; omega⟩, ⟨by (with_reducible repeat (first | apply Kd.R_alloc | apply Kd.R_drewN | apply Kd.R_drew)); exact Kd.R_mono HQ25.out (fun _ hk => trivial)⟩, ⟨by repeat (first | (with_reducible first | exact HB.out | apply below_alloc | apply pw_below_drewN | apply below_drew1 | refine below_set ?_ GB14.out | refine below_set ?_ GE110.out) | exact HB.out)⟩⟩
          ·rw [if_neg c13] at H
           have c13b0 : ((wrap64 (((rd_T43 x9_1 (ji10)).f0) + ((rd_T43 x9_1 (ji10)).f1))) == ((rd_T43 l0 x22_1).f0)) = false := beq_eq_false_iff_ne.mpr c13
           have c13b1 : ((wrap64 (((rd_T43 x9_1 (ji10)).f0) + ((rd_T43 x9_1 (ji10)).f1))) != ((rd_T43 l0 x22_1).f0)) = true := bne_iff_ne.mpr c13
           by_cases c26 : x9_1.length < 4398046511104
           ·rw [if_pos c26] at H
            have LMc26 := Aside0.mk c26
            clear c26
            obtain ⟨y117, hy117⟩ : ∃ y_ : List (S43), y_ = (x9_1 ++ [(⟨(rd_T43 l0 x22_1).f0, (rd_T43 l0 x22_1).f1, (rd_T43 l0 x22_1).f2, (rd_T43 l0 x22_1).f3⟩ : S43)]) := ⟨_, rfl⟩
            replace H : (edits_Normal.l0 k1 y117 l0 (l0.length : Int) (wrap64 (x22_1 + 1))) = some (r1, r2) := by first | (rw [hy117]; with_reducible exact H) | (have H2_ := (Option.bind_some _ _).symm.trans H; rw [hy117]; with_reducible exact H2_) | (have H2_ := (Option.bind_some _ _).symm.trans H; with_reducible exact H2_) | with_reducible exact H | (rw [hy117]; exact H) | exact H
            have Ny117 := Aside0.mk hy117
            clear hy117
            have H' := Aside0.mk H
            clear H
            have p109 : 0 ≤ (x22_1 : Int) := ofDec
            have q109 : x22_1 < (l0.length : Int) := ofDec
            obtain ⟨ad109, e109, hx109_0, hx109_1, hx109_2, hx109_3⟩ := at_T43 HR0.out x22_1 p109 q109
            cases e109
            replace hx109_0 := (HB.out.cell (World.block_lt_of_cell? w _ hx109_0)).trans hx109_0
            replace hx109_1 := (HB.out.cell (World.block_lt_of_cell? w _ hx109_1)).trans hx109_1
            replace hx109_2 := (HB.out.cell (World.block_lt_of_cell? w _ hx109_2)).trans hx109_2
            replace hx109_3 := (HB.out.cell (World.block_lt_of_cell? w _ hx109_3)).trans hx109_3
            replace p109 := eq_true p109
            replace q109 := eq_true q109
            try go_wp2_with (first | ((with_reducible refine gate_dst (N := 11) rfl ?_); refine box_event ?hg (N := 11) ?hd (cs := #[.int .i64 0, .int .i64 0, .int .i64 0, .int .i64 0]) (t := 43) ?hr ?_; (case hd => rfl); (case hg => rfl); (case hr => first | (go_simp; done) | (go_simp; rfl)); intro gb110 hg w27 hbox hb; have n0_ := Aside0.mk (Kd.R_below (Kd.R_elderB (kdUp HO_9.out) gb110 (Nat.le_of_eq hg.symm)) hb); have n1_ := Aside0.mk (below_step belNow hb); have n2_ := Aside0.mk (hbox); have n3_ := Aside0.mk ((by rw [hg]; exact (below_size belNow) : w.heap.size ≤ gb110)); have n4_ := Aside0.mk ((by rw [hg]; exact (below_size belNow) : w.heap.size ≤ gb110)); clear HO_9; clear HB; have HO_9 := n0_; have HB := n1_; have BK110 := n2_; have GW110 := n3_; have GE110 := n4_; clear n0_ n1_ n2_ n3_ n4_; clear hb hbox hg; have hcz28_0 : w27.cell? ⟨gb110, 0, none⟩ = some (.int .i64 0) := (blk_cell BK110.out 0).trans rfl; have hcz28_1 : w27.cell? ⟨gb110, 1, none⟩ = some (.int .i64 0) := (blk_cell BK110.out 1).trans rfl; have hcz28_2 : w27.cell? ⟨gb110, 2, none⟩ = some (.int .i64 0) := (blk_cell BK110.out 2).trans rfl; have hcz28_3 : w27.cell? ⟨gb110, 3, none⟩ = some (.int .i64 0) := (blk_cell BK110.out 3).trans rfl; have hfz28_0 := blk_frozen BK110.out 0; have hfz28_1 := blk_frozen BK110.out 1; have hfz28_2 := blk_frozen BK110.out 2; have hfz28_3 := blk_frozen BK110.out 3; obtain ⟨Ao29, co29, eo29⟩ := Kd.R_slice HO_9.out; subst eo29))
            have n0_ : Aside0 (Kd.R k43 43 ((((w27.setCell ⟨gb110, 0, none⟩ (.int .i64 ((rd_T43 l0 x22_1).f0))).setCell ⟨gb110, 1, none⟩ (.int .i64 ((rd_T43 l0 x22_1).f1))).setCell ⟨gb110, 2, none⟩ (.int .i64 ((rd_T43 l0 x22_1).f2))).setCell ⟨gb110, 3, none⟩ (.int .i64 ((rd_T43 l0 x22_1).f3))) w.heap.size (fun k_ => k_ ≠ gb110) (.slice Ao29 x9_1.length co29) x9_1) := ⟨by (with_reducible repeat (first | apply Kd.R_alloc | apply Kd.R_drewN | apply Kd.R_drew)); exact Kd.R_mono (Kd.R_far (p := ⟨gb110, 3, none⟩) (Kd.R_far (p := ⟨gb110, 2, none⟩) (Kd.R_far (p := ⟨gb110, 1, none⟩) (Kd.R_far (p := ⟨gb110, 0, none⟩) (Kd.R_mono HO_9.out (fun k_ hk => (⟨hk, hk.2⟩ : _ ∧ k_ ≠ gb110))) (fun _ hk => hk.2) (.int .i64 ((rd_T43 l0 x22_1).f0))) (fun _ hk => hk.2) (.int .i64 ((rd_T43 l0 x22_1).f1))) (fun _ hk => hk.2) (.int .i64 ((rd_T43 l0 x22_1).f2))) (fun _ hk => hk.2) (.int .i64 ((rd_T43 l0 x22_1).f3))) (fun _ hk => hk.1.2)⟩
            have n1_ : Aside0 (((((w27.setCell ⟨gb110, 0, none⟩ (.int .i64 ((rd_T43 l0 x22_1).f0))).setCell ⟨gb110, 1, none⟩ (.int .i64 ((rd_T43 l0 x22_1).f1))).setCell ⟨gb110, 2, none⟩ (.int .i64 ((rd_T43 l0 x22_1).f2))).setCell ⟨gb110, 3, none⟩ (.int .i64 ((rd_T43 l0 x22_1).f3))).heap[gb110]? = some (.cells #[.int .i64 ((rd_T43 l0 x22_1).f0), .int .i64 ((rd_T43 l0 x22_1).f1), .int .i64 ((rd_T43 l0 x22_1).f2), .int .i64 ((rd_T43 l0 x22_1).f3)] 43 (0, 0))) := ⟨by (with_reducible repeat (first | refine blk_drewN ?_ _ | refine blk_drew ?_ | refine blk_alloc ?_ _)); refine blk_put (cs := #[.int .i64 ((rd_T43 l0 x22_1).f0), .int .i64 ((rd_T43 l0 x22_1).f1), .int .i64 ((rd_T43 l0 x22_1).f2), .int .i64 0]) ?_ 3 _ rfl; (with_reducible repeat (first | refine blk_drewN ?_ _ | refine blk_drew ?_ | refine blk_alloc ?_ _)); refine blk_put (cs := #[.int .i64 ((rd_T43 l0 x22_1).f0), .int .i64 ((rd_T43 l0 x22_1).f1), .int .i64 0, .int .i64 0]) ?_ 2 _ rfl; (with_reducible repeat (first | refine blk_drewN ?_ _ | refine blk_drew ?_ | refine blk_alloc ?_ _)); refine blk_put (cs := #[.int .i64 ((rd_T43 l0 x22_1).f0), .int .i64 0, .int .i64 0, .int .i64 0]) ?_ 1 _ rfl; (with_reducible repeat (first | refine blk_drewN ?_ _ | refine blk_drew ?_ | refine blk_alloc ?_ _)); refine blk_put (cs := #[.int .i64 0, .int .i64 0, .int .i64 0, .int .i64 0]) ?_ 0 _ rfl; (with_reducible repeat (first | refine blk_drewN ?_ _ | refine blk_drew ?_ | refine blk_alloc ?_ _)); exact BK110.out⟩
            have n2_ : Aside0 (Below w.heap.size w ((((w27.setCell ⟨gb110, 0, none⟩ (.int .i64 ((rd_T43 l0 x22_1).f0))).setCell ⟨gb110, 1, none⟩ (.int .i64 ((rd_T43 l0 x22_1).f1))).setCell ⟨gb110, 2, none⟩ (.int .i64 ((rd_T43 l0 x22_1).f2))).setCell ⟨gb110, 3, none⟩ (.int .i64 ((rd_T43 l0 x22_1).f3)))) := ⟨belPut⟩
            (try clear HO_9)
            (try clear BK110)
            (try clear HB)
            generalize ((((w27.setCell ⟨gb110, 0, none⟩ (.int .i64 ((rd_T43 l0 x22_1).f0))).setCell ⟨gb110, 1, none⟩ (.int .i64 ((rd_T43 l0 x22_1).f1))).setCell ⟨gb110, 2, none⟩ (.int .i64 ((rd_T43 l0 x22_1).f2))).setCell ⟨gb110, 3, none⟩ (.int .i64 ((rd_T43 l0 x22_1).f3))) = w30 at n0_ n1_ n2_ ⊢
            have HO_9 := n0_
            have BK110 := n1_
            have HB := n2_
            clear n0_ n1_ n2_
            have n0_ := Aside0.mk (Kd.R_drew HO_9.out)
            have n1_ := Aside0.mk (blk_drew BK110.out)
            have n2_ := Aside0.mk (below_drew1 HB.out)
            clear HO_9
            clear BK110
            clear HB
            have HO_9 := n0_
            have BK110 := n1_
            have HB := n2_
            clear n0_ n1_ n2_
            have p111 : 0 ≤ ((ji10) : Int) := ofDec
            have q111 : (ji10) < (x9_1.length : Int) := ofDec
            obtain ⟨ad111, e111, hx111_0, hx111_1, hx111_2, hx111_3⟩ := at_T43 (Kd.R_reads' HO_9.out).2.2 (ji10) p111 q111
            cases e111
            replace p111 := eq_true p111
            replace q111 := eq_true q111
            have p112 : 0 ≤ ((ji10) : Int) := ofDec
            have q112 : (ji10) < (x9_1.length : Int) := ofDec
            obtain ⟨ad112, e112, hx112_0, hx112_1, hx112_2, hx112_3⟩ := at_T43 (Kd.R_reads' HO_9.out).2.2 (ji10) p112 q112
            obtain rfl : ad111 = ad112 := (by injection e112)
            replace p112 := eq_true p112
            replace q112 := eq_true q112
            refine start_ (n := 18) (S := fun w' => w'.cell? ⟨gb110, 0, none⟩ = some (.int .i64 ((rd_T43 l0 x22_1).f0)) ∧ w'.cell? ⟨gb110, 1, none⟩ = some (.int .i64 ((rd_T43 l0 x22_1).f1)) ∧ w'.cell? ⟨gb110, 2, none⟩ = some (.int .i64 ((rd_T43 l0 x22_1).f2)) ∧ w'.cell? ⟨gb110, 3, none⟩ = some (.int .i64 ((rd_T43 l0 x22_1).f3)) ∧ w'.cell? (ad111.add (((ji10)).toNat * 4)) = some (.int .i64 ((rd_T43 x9_1 (ji10)).f0)) ∧ w'.cell? ⟨(ad111.add (((ji10)).toNat * 4)).block, (ad111.add (((ji10)).toNat * 4)).off + 1, none⟩ = some (.int .i64 ((rd_T43 x9_1 (ji10)).f1)) ∧ w'.cell? ⟨(ad111.add (((ji10)).toNat * 4)).block, (ad111.add (((ji10)).toNat * 4)).off + 2, none⟩ = some (.int .i64 ((rd_T43 x9_1 (ji10)).f2)) ∧ w'.cell? ⟨(ad111.add (((ji10)).toNat * 4)).block, (ad111.add (((ji10)).toNat * 4)).off + 3, none⟩ = some (.int .i64 ((rd_T43 x9_1 (ji10)).f3)) ∧ w'.cell? (ad111.add (((ji10)).toNat * 4)) = some (.int .i64 ((rd_T43 x9_1 (ji10)).f0)) ∧ w'.cell? ⟨(ad111.add (((ji10)).toNat * 4)).block, (ad111.add (((ji10)).toNat * 4)).off + 1, none⟩ = some (.int .i64 ((rd_T43 x9_1 (ji10)).f1)) ∧ w'.cell? ⟨(ad111.add (((ji10)).toNat * 4)).block, (ad111.add (((ji10)).toNat * 4)).off + 2, none⟩ = some (.int .i64 ((rd_T43 x9_1 (ji10)).f2)) ∧ w'.cell? ⟨(ad111.add (((ji10)).toNat * 4)).block, (ad111.add (((ji10)).toNat * 4)).off + 3, none⟩ = some (.int .i64 ((rd_T43 x9_1 (ji10)).f3))) (ds := []) #[false, false, false, false, false, false, false, false, false, false, false, false, false, false, false, false, false, false] (by kernel_rfl) rfl rfl ⟨(blk_cell BK110.out 0).trans rfl, (blk_cell BK110.out 1).trans rfl, (blk_cell BK110.out 2).trans rfl, (blk_cell BK110.out 3).trans rfl, hx111_0, hx111_1, hx111_2, hx111_3, hx112_0, hx112_1, hx112_2, hx112_3⟩ (fun hHeld => ?_); refine with_tabW edits_Normal.tab9 edits_Normal.bits9 (fun HT_ HW_ => ?_)
            generalize w30.drew = w31 at HO_9 BK110 HB hx111_0 hx111_1 hx111_2 hx111_3 hx112_0 hx112_1 hx112_2 hx112_3 hHeld ⊢
            refine pure_ (i := 0) (N := some 29) (v := ?_) (a' := ?_) #[true, false, false, false, false, false, false, false, false, false, false, false, false, false, false, false, false, false] rfl rfl (any_of HT_.out (by kernel_rfl)) (fun _ _ _ h => h) (Or.inl ⟨by rfl, ?_⟩) ?_ ?_
            rotate_left
            ·intro w'
             go_simp
             with_reducible rfl
            rotate_left
            ·simp only [Act.put, List.setIfInBounds_toArray, List.set_cons_zero, List.set_cons_succ, i64_w, i32_w]
             rfl
            refine pure_ (i := 1) (N := some 30) (v := ?_) (a' := ?_) #[true, true, false, false, false, false, false, false, false, false, false, false, false, false, false, false, false, false] rfl rfl (any_of HT_.out (by kernel_rfl)) (fun _ _ _ h => h) (Or.inl ⟨by rfl, ?_⟩) ?_ ?_
            rotate_left
            ·intro w'
             go_simp
             with_reducible rfl
            rotate_left
            ·simp only [Act.put, List.setIfInBounds_toArray, List.set_cons_zero, List.set_cons_succ, i64_w, i32_w]
             rfl
            refine pure_ (i := 2) (N := some 31) (v := ?_) (a' := ?_) #[true, true, true, false, false, false, false, false, false, false, false, false, false, false, false, false, false, false] rfl rfl (any_of HT_.out (by kernel_rfl)) (fun _ _ _ h => h) (Or.inl ⟨by rfl, ?_⟩) ?_ ?_
            rotate_left
            ·intro w'
             go_simp
             with_reducible rfl
            rotate_left
            ·simp only [Act.put, List.setIfInBounds_toArray, List.set_cons_zero, List.set_cons_succ, i64_w, i32_w]
             rfl
            refine pure_ (i := 3) (N := some 32) (v := ?_) (a' := ?_) #[true, true, true, true, false, false, false, false, false, false, false, false, false, false, false, false, false, false] rfl rfl (any_of HT_.out (by kernel_rfl)) (fun _ _ _ h => h) (Or.inl ⟨by rfl, ?_⟩) ?_ ?_
            rotate_left
            ·intro w'
             go_simp
             with_reducible rfl
            rotate_left
            ·simp only [Act.put, List.setIfInBounds_toArray, List.set_cons_zero, List.set_cons_succ, i64_w, i32_w]
             rfl
            refine pure_ (i := 4) (N := some 33) (v := ?_) (a' := ?_) #[true, true, true, true, true, false, false, false, false, false, false, false, false, false, false, false, false, false] rfl rfl (any_of HT_.out (by kernel_rfl)) (fun _ _ _ h => h) (Or.inl ⟨by rfl, ?_⟩) ?_ ?_
            rotate_left
            ·intro w'
             go_simp
             with_reducible rfl
            rotate_left
            ·simp only [Act.put, List.setIfInBounds_toArray, List.set_cons_zero, List.set_cons_succ, i64_w, i32_w]
             rfl
            refine pure_ (i := 5) (N := some 34) (v := ?_) (a' := ?_) #[true, true, true, true, true, true, false, false, false, false, false, false, false, false, false, false, false, false] rfl rfl (any_of HT_.out (by kernel_rfl)) (fun _ _ _ h => h) (Or.inl ⟨by rfl, ?_⟩) ?_ ?_
            rotate_left
            ·intro w'
             go_simp
             with_reducible rfl
            rotate_left
            ·simp only [Act.put, List.setIfInBounds_toArray, List.set_cons_zero, List.set_cons_succ, i64_w, i32_w]
             rfl
            refine pure_ (i := 6) (N := some 35) (v := ?_) (a' := ?_) #[true, true, true, true, true, true, true, false, false, false, false, false, false, false, false, false, false, false] rfl rfl (any_of HT_.out (by kernel_rfl)) (fun _ _ _ h => h) (Or.inl ⟨by rfl, ?_⟩) ?_ ?_
            rotate_left
            ·intro w'
             go_simp
             with_reducible rfl
            rotate_left
            ·simp only [Act.put, List.setIfInBounds_toArray, List.set_cons_zero, List.set_cons_succ, i64_w, i32_w]
             rfl
            refine pure_ (i := 8) (N := some 37) (v := ?_) (a' := ?_) #[true, true, true, true, true, true, true, false, true, false, false, false, false, false, false, false, false, false] rfl rfl (any_of HT_.out (by kernel_rfl)) (fun _ _ _ h => h) (Or.inl ⟨by rfl, ?_⟩) ?_ ?_
            rotate_left
            ·intro w'
             go_simp
             with_reducible rfl
            rotate_left
            ·simp only [Act.put, List.setIfInBounds_toArray, List.set_cons_zero, List.set_cons_succ, i64_w, i32_w]
             rfl
            refine pure_ (i := 9) (N := some 38) (v := ?_) (a' := ?_) #[true, true, true, true, true, true, true, false, true, true, false, false, false, false, false, false, false, false] rfl rfl (any_of HT_.out (by kernel_rfl)) (fun _ _ _ h => h) (Or.inl ⟨by rfl, ?_⟩) ?_ ?_
            rotate_left
            ·intro w'
             go_simp
             with_reducible rfl
            rotate_left
            ·simp only [Act.put, List.setIfInBounds_toArray, List.set_cons_zero, List.set_cons_succ, i64_w, i32_w]
             rfl
            refine pure_ (i := 10) (N := some 39) (v := ?_) (a' := ?_) #[true, true, true, true, true, true, true, false, true, true, true, false, false, false, false, false, false, false] rfl rfl (any_of HT_.out (by kernel_rfl)) (fun _ _ _ h => h) (Or.inl ⟨by rfl, ?_⟩) ?_ ?_
            rotate_left
            ·intro w'
             go_simp
             with_reducible rfl
            rotate_left
            ·simp only [Act.put, List.setIfInBounds_toArray, List.set_cons_zero, List.set_cons_succ, i64_w, i32_w]
             rfl
            refine pure_ (i := 11) (N := some 40) (v := ?_) (a' := ?_) #[true, true, true, true, true, true, true, false, true, true, true, true, false, false, false, false, false, false] rfl rfl (any_of HT_.out (by kernel_rfl)) (fun _ _ _ h => h) (Or.inl ⟨by rfl, ?_⟩) ?_ ?_
            rotate_left
            ·intro w'
             go_simp
             with_reducible rfl
            rotate_left
            ·simp only [Act.put, List.setIfInBounds_toArray, List.set_cons_zero, List.set_cons_succ, i64_w, i32_w]
             rfl
            refine pure_ (i := 14) (N := some 43) (v := ?_) (a' := ?_) #[true, true, true, true, true, true, true, false, true, true, true, true, false, false, true, false, false, false] rfl rfl (any_of HT_.out (by kernel_rfl)) (fun _ _ _ h => h) (Or.inl ⟨by rfl, ?_⟩) ?_ ?_
            rotate_left
            ·intro w'
             go_simp
             with_reducible rfl
            rotate_left
            ·simp only [Act.put, List.setIfInBounds_toArray, List.set_cons_zero, List.set_cons_succ, i64_w, i32_w]
             rfl
            refine take_ (i := 7) (N := some 36) (v := ?_) (a' := ?_) #[true, true, true, true, true, true, true, true, true, true, true, true, false, false, true, false, false, false] rfl rfl (take_ofW HT_.out HW_.out (by kernel_rfl)) (fun _ _ _ h => h) (Or.inl ⟨by rfl, ?_⟩) hHeld ?_ ?_
            rotate_left
            ·rintro w' ⟨s0, s1, s2, s3, s4, s5, s6, s7, s8, s9, s10, s11⟩
             go_simp
             with_reducible rfl
            rotate_left
            ·simp only [Act.put, List.setIfInBounds_toArray, List.set_cons_zero, List.set_cons_succ, i64_w, i32_w]
             rfl
            refine take_ (i := 12) (N := some 41) (v := ?_) (a' := ?_) #[true, true, true, true, true, true, true, true, true, true, true, true, true, false, true, false, false, false] rfl rfl (take_ofW HT_.out HW_.out (by kernel_rfl)) (fun _ _ _ h => h) (Or.inl ⟨by rfl, ?_⟩) hHeld ?_ ?_
            rotate_left
            ·rintro w' ⟨s0, s1, s2, s3, s4, s5, s6, s7, s8, s9, s10, s11⟩
             go_simp
             with_reducible rfl
            rotate_left
            ·simp only [Act.put, List.setIfInBounds_toArray, List.set_cons_zero, List.set_cons_succ, i64_w, i32_w]
             rfl
            refine pure_ (i := 13) (N := some 42) (v := ?_) (a' := ?_) #[true, true, true, true, true, true, true, true, true, true, true, true, true, true, true, false, false, false] rfl rfl (any_of HT_.out (by kernel_rfl)) (fun _ _ _ h => h) (Or.inl ⟨by rfl, ?_⟩) ?_ ?_
            rotate_left
            ·intro w'
             go_simp
             with_reducible rfl
            rotate_left
            ·simp only [Act.put, List.setIfInBounds_toArray, List.set_cons_zero, List.set_cons_succ, i64_w, i32_w]
             rfl
            refine take_ (i := 15) (N := some 44) (v := ?_) (a' := ?_) #[true, true, true, true, true, true, true, true, true, true, true, true, true, true, true, true, false, false] rfl rfl (take_ofW HT_.out HW_.out (by kernel_rfl)) (fun _ _ _ h => h) (Or.inl ⟨by rfl, ?_⟩) hHeld ?_ ?_
            rotate_left
            ·rintro w' ⟨s0, s1, s2, s3, s4, s5, s6, s7, s8, s9, s10, s11⟩
             go_simp
             with_reducible rfl
            rotate_left
            ·simp only [Act.put, List.setIfInBounds_toArray, List.set_cons_zero, List.set_cons_succ, i64_w, i32_w]
             rfl
            refine pure_ (i := 16) (N := some 45) (v := ?_) (a' := ?_) #[true, true, true, true, true, true, true, true, true, true, true, true, true, true, true, true, true, false] rfl rfl (any_of HT_.out (by kernel_rfl)) (fun _ _ _ h => h) (Or.inl ⟨by rfl, ?_⟩) ?_ ?_
            rotate_left
            ·intro w'
             go_simp
             with_reducible rfl
            rotate_left
            ·simp only [Act.put, List.setIfInBounds_toArray, List.set_cons_zero, List.set_cons_succ, i64_w, i32_w]
             rfl
            refine pure_ (i := 17) (N := some 46) (v := ?_) (a' := ?_) #[true, true, true, true, true, true, true, true, true, true, true, true, true, true, true, true, true, true] rfl rfl (any_of HT_.out (by kernel_rfl)) (fun _ _ _ h => h) (Or.inl ⟨by rfl, ?_⟩) ?_ ?_
            rotate_left
            ·intro w'
             go_simp
             with_reducible rfl
            rotate_left
            ·simp only [Act.put, List.setIfInBounds_toArray, List.set_cons_zero, List.set_cons_succ, i64_w, i32_w]
             rfl
            refine done_ (done_of HT_.out (by kernel_rfl)) ?_
            have hcz32_0 : w31.cell? ⟨gb110, 0, none⟩ = some (.int .i64 ((rd_T43 l0 x22_1).f0)) := (blk_cell BK110.out 0).trans rfl
            have hcz32_1 : w31.cell? ⟨gb110, 1, none⟩ = some (.int .i64 ((rd_T43 l0 x22_1).f1)) := (blk_cell BK110.out 1).trans rfl
            have hcz32_2 : w31.cell? ⟨gb110, 2, none⟩ = some (.int .i64 ((rd_T43 l0 x22_1).f2)) := (blk_cell BK110.out 2).trans rfl
            have hcz32_3 : w31.cell? ⟨gb110, 3, none⟩ = some (.int .i64 ((rd_T43 l0 x22_1).f3)) := (blk_cell BK110.out 3).trans rfl
            have hfz32_0 := blk_frozen BK110.out 0
            have hfz32_1 := blk_frozen BK110.out 1
            have hfz32_2 := blk_frozen BK110.out 2
            have hfz32_3 := blk_frozen BK110.out 3
            try go_wp2_with (first | ((with_reducible refine gate_builtin (b := .append) (xs := #[.tmp 67, .tmp 69]) rfl ?_); at_builtin; refine Kd.R_append k43 (w0 := w) w.heap.size rfl (.tmp 67) (.tmp 69) 22 43 (.agg #[(.int .i64 0), (.int .i64 0), (.int .i64 0), (.int .i64 0)]) 32 rfl Tryd.underlying22 info43 rfl (by decide) (by omega) (.slice (some ad111) x9_1.length co29) x9_1 (⟨(rd_T43 l0 x22_1).f0, (rd_T43 l0 x22_1).f1, (rd_T43 l0 x22_1).f2, (rd_T43 l0 x22_1).f3⟩ : S43) [.int .i64 ((rd_T43 l0 x22_1).f0), .int .i64 ((rd_T43 l0 x22_1).f1), .int .i64 ((rd_T43 l0 x22_1).f2), .int .i64 ((rd_T43 l0 x22_1).f3)] (fun k_ => k_ ≠ gb110) (fun _ => False) rfl rfl ?aP (fun _ hk => hk.elim) ?aF ?aO ?aB ?aS ?aL ?_; (case aP => exact k43_mkM _ _ _ (⟨(rd_T43 l0 x22_1).f0, (rd_T43 l0 x22_1).f1, (rd_T43 l0 x22_1).f2, (rd_T43 l0 x22_1).f3⟩ : S43)); (case aB => exact (belPut)); (case aF => exact (fun k_ hk => Kd.freshB (g := gb110) (o := .cells #[.int .i64 ((rd_T43 l0 x22_1).f0), .int .i64 ((rd_T43 l0 x22_1).f1), .int .i64 ((rd_T43 l0 x22_1).f2), .int .i64 ((rd_T43 l0 x22_1).f3)] 43 (0, 0)) (bkUp BK110.out) k_ hk)); (case aO => exact (kdUp HO_9.out)); (case aS => exact (below_size (belPut))); (case aL => have := LMc26.out; omega); intro v118 w33 ho hb hg hat; rw [← Ny117.out] at ho; have n0_ := Aside0.mk (blk_grown (g := gb110) (o := .cells #[.int .i64 ((rd_T43 l0 x22_1).f0), .int .i64 ((rd_T43 l0 x22_1).f1), .int .i64 ((rd_T43 l0 x22_1).f2), .int .i64 ((rd_T43 l0 x22_1).f3)] 43 (0, 0)) (bkUp BK110.out) hg (Kd.R_away HO_9.out (fun _ hk => hk))); have n1_ := Aside0.mk (hb); have n2_ := Aside0.mk (ho); clear BK110; clear HB; clear HO_9; have BK110 := n0_; have HB := n1_; have HO119 := n2_; clear n0_ n1_ n2_; clear ho hb hg hat))
            go_roundg k1
            case measure => have := HK1.out; omega
            case rel => exact ⟨(y117), (wrap64 (x22_1 + 1)), eqNow, H', ⟨by have := HK1.out; omega⟩, ⟨by (with_reducible repeat (first | apply Kd.R_alloc | apply Kd.R_drewN | apply Kd.R_drew)); exact Kd.R_mono HO119.out (fun _ hk => trivial)⟩, ⟨belPut⟩⟩
           ·rw [if_neg c26] at H
            exact absurd H (by simp)
         ·rw [if_neg c12] at H
          exact absurd H (by simp)
        ·rw [if_neg c11] at H
         exact absurd H (by simp)
       ·rw [if_neg c9] at H
        have c9b0 : decide (0 ≤ (wrap64 ((x9_1.length : Int) - 1))) = false := decide_eq_false c9
        clear c9
        by_cases c34 : x9_1.length < 4398046511104
        ·rw [if_pos c34] at H
         have LMc34 := Aside0.mk c34
         clear c34
         obtain ⟨y120, hy120⟩ : ∃ y_ : List (S43), y_ = (x9_1 ++ [(⟨(rd_T43 l0 x22_1).f0, (rd_T43 l0 x22_1).f1, (rd_T43 l0 x22_1).f2, (rd_T43 l0 x22_1).f3⟩ : S43)]) := ⟨_, rfl⟩
         replace H : (edits_Normal.l0 k1 y120 l0 (l0.length : Int) (wrap64 (x22_1 + 1))) = some (r1, r2) := by first | (rw [hy120]; with_reducible exact H) | (have H2_ := (Option.bind_some _ _).symm.trans H; rw [hy120]; with_reducible exact H2_) | (have H2_ := (Option.bind_some _ _).symm.trans H; with_reducible exact H2_) | with_reducible exact H | (rw [hy120]; exact H) | exact H
         have Ny120 := Aside0.mk hy120
         clear hy120
         have H' := Aside0.mk H
         clear H
         have p109 : 0 ≤ (x22_1 : Int) := ofDec
         have q109 : x22_1 < (l0.length : Int) := ofDec
         obtain ⟨ad109, e109, hx109_0, hx109_1, hx109_2, hx109_3⟩ := at_T43 HR0.out x22_1 p109 q109
         cases e109
         replace hx109_0 := (HB.out.cell (World.block_lt_of_cell? w _ hx109_0)).trans hx109_0
         replace hx109_1 := (HB.out.cell (World.block_lt_of_cell? w _ hx109_1)).trans hx109_1
         replace hx109_2 := (HB.out.cell (World.block_lt_of_cell? w _ hx109_2)).trans hx109_2
         replace hx109_3 := (HB.out.cell (World.block_lt_of_cell? w _ hx109_3)).trans hx109_3
         replace p109 := eq_true p109
         replace q109 := eq_true q109
         try go_wp2_with (first | ((with_reducible refine gate_dst (N := 11) rfl ?_); refine box_event ?hg (N := 11) ?hd (cs := #[.int .i64 0, .int .i64 0, .int .i64 0, .int .i64 0]) (t := 43) ?hr ?_; (case hd => rfl); (case hg => rfl); (case hr => first | (go_simp; done) | (go_simp; rfl)); intro gb110 hg w35 hbox hb; have n0_ := Aside0.mk (Kd.R_below (Kd.R_elderB (kdUp HO_9.out) gb110 (Nat.le_of_eq hg.symm)) hb); have n1_ := Aside0.mk (below_step belNow hb); have n2_ := Aside0.mk (hbox); have n3_ := Aside0.mk ((by rw [hg]; exact (below_size belNow) : w.heap.size ≤ gb110)); have n4_ := Aside0.mk ((by rw [hg]; exact (below_size belNow) : w.heap.size ≤ gb110)); clear HO_9; clear HB; have HO_9 := n0_; have HB := n1_; have BK110 := n2_; have GW110 := n3_; have GE110 := n4_; clear n0_ n1_ n2_ n3_ n4_; clear hb hbox hg; have hcz36_0 : w35.cell? ⟨gb110, 0, none⟩ = some (.int .i64 0) := (blk_cell BK110.out 0).trans rfl; have hcz36_1 : w35.cell? ⟨gb110, 1, none⟩ = some (.int .i64 0) := (blk_cell BK110.out 1).trans rfl; have hcz36_2 : w35.cell? ⟨gb110, 2, none⟩ = some (.int .i64 0) := (blk_cell BK110.out 2).trans rfl; have hcz36_3 : w35.cell? ⟨gb110, 3, none⟩ = some (.int .i64 0) := (blk_cell BK110.out 3).trans rfl; have hfz36_0 := blk_frozen BK110.out 0; have hfz36_1 := blk_frozen BK110.out 1; have hfz36_2 := blk_frozen BK110.out 2; have hfz36_3 := blk_frozen BK110.out 3; obtain ⟨Ao37, co37, eo37⟩ := Kd.R_slice HO_9.out; subst eo37))
         have n0_ : Aside0 (Kd.R k43 43 ((((w35.setCell ⟨gb110, 0, none⟩ (.int .i64 ((rd_T43 l0 x22_1).f0))).setCell ⟨gb110, 1, none⟩ (.int .i64 ((rd_T43 l0 x22_1).f1))).setCell ⟨gb110, 2, none⟩ (.int .i64 ((rd_T43 l0 x22_1).f2))).setCell ⟨gb110, 3, none⟩ (.int .i64 ((rd_T43 l0 x22_1).f3))) w.heap.size (fun k_ => k_ ≠ gb110) (.slice Ao37 x9_1.length co37) x9_1) := ⟨by (with_reducible repeat (first | apply Kd.R_alloc | apply Kd.R_drewN | apply Kd.R_drew)); exact Kd.R_mono (Kd.R_far (p := ⟨gb110, 3, none⟩) (Kd.R_far (p := ⟨gb110, 2, none⟩) (Kd.R_far (p := ⟨gb110, 1, none⟩) (Kd.R_far (p := ⟨gb110, 0, none⟩) (Kd.R_mono HO_9.out (fun k_ hk => (⟨hk, hk.2⟩ : _ ∧ k_ ≠ gb110))) (fun _ hk => hk.2) (.int .i64 ((rd_T43 l0 x22_1).f0))) (fun _ hk => hk.2) (.int .i64 ((rd_T43 l0 x22_1).f1))) (fun _ hk => hk.2) (.int .i64 ((rd_T43 l0 x22_1).f2))) (fun _ hk => hk.2) (.int .i64 ((rd_T43 l0 x22_1).f3))) (fun _ hk => hk.1.2)⟩
         have n1_ : Aside0 (((((w35.setCell ⟨gb110, 0, none⟩ (.int .i64 ((rd_T43 l0 x22_1).f0))).setCell ⟨gb110, 1, none⟩ (.int .i64 ((rd_T43 l0 x22_1).f1))).setCell ⟨gb110, 2, none⟩ (.int .i64 ((rd_T43 l0 x22_1).f2))).setCell ⟨gb110, 3, none⟩ (.int .i64 ((rd_T43 l0 x22_1).f3))).heap[gb110]? = some (.cells #[.int .i64 ((rd_T43 l0 x22_1).f0), .int .i64 ((rd_T43 l0 x22_1).f1), .int .i64 ((rd_T43 l0 x22_1).f2), .int .i64 ((rd_T43 l0 x22_1).f3)] 43 (0, 0))) := ⟨by (with_reducible repeat (first | refine blk_drewN ?_ _ | refine blk_drew ?_ | refine blk_alloc ?_ _)); refine blk_put (cs := #[.int .i64 ((rd_T43 l0 x22_1).f0), .int .i64 ((rd_T43 l0 x22_1).f1), .int .i64 ((rd_T43 l0 x22_1).f2), .int .i64 0]) ?_ 3 _ rfl; (with_reducible repeat (first | refine blk_drewN ?_ _ | refine blk_drew ?_ | refine blk_alloc ?_ _)); refine blk_put (cs := #[.int .i64 ((rd_T43 l0 x22_1).f0), .int .i64 ((rd_T43 l0 x22_1).f1), .int .i64 0, .int .i64 0]) ?_ 2 _ rfl; (with_reducible repeat (first | refine blk_drewN ?_ _ | refine blk_drew ?_ | refine blk_alloc ?_ _)); refine blk_put (cs := #[.int .i64 ((rd_T43 l0 x22_1).f0), .int .i64 0, .int .i64 0, .int .i64 0]) ?_ 1 _ rfl; (with_reducible repeat (first | refine blk_drewN ?_ _ | refine blk_drew ?_ | refine blk_alloc ?_ _)); refine blk_put (cs := #[.int .i64 0, .int .i64 0, .int .i64 0, .int .i64 0]) ?_ 0 _ rfl; (with_reducible repeat (first | refine blk_drewN ?_ _ | refine blk_drew ?_ | refine blk_alloc ?_ _)); exact BK110.out⟩
         have n2_ : Aside0 (Below w.heap.size w ((((w35.setCell ⟨gb110, 0, none⟩ (.int .i64 ((rd_T43 l0 x22_1).f0))).setCell ⟨gb110, 1, none⟩ (.int .i64 ((rd_T43 l0 x22_1).f1))).setCell ⟨gb110, 2, none⟩ (.int .i64 ((rd_T43 l0 x22_1).f2))).setCell ⟨gb110, 3, none⟩ (.int .i64 ((rd_T43 l0 x22_1).f3)))) := ⟨belPut⟩
         (try clear HO_9)
         (try clear BK110)
         (try clear HB)
         generalize ((((w35.setCell ⟨gb110, 0, none⟩ (.int .i64 ((rd_T43 l0 x22_1).f0))).setCell ⟨gb110, 1, none⟩ (.int .i64 ((rd_T43 l0 x22_1).f1))).setCell ⟨gb110, 2, none⟩ (.int .i64 ((rd_T43 l0 x22_1).f2))).setCell ⟨gb110, 3, none⟩ (.int .i64 ((rd_T43 l0 x22_1).f3))) = w38 at n0_ n1_ n2_ ⊢
         have HO_9 := n0_
         have BK110 := n1_
         have HB := n2_
         clear n0_ n1_ n2_
         have n0_ := Aside0.mk (Kd.R_drew HO_9.out)
         have n1_ := Aside0.mk (blk_drew BK110.out)
         have n2_ := Aside0.mk (below_drew1 HB.out)
         clear HO_9
         clear BK110
         clear HB
         have HO_9 := n0_
         have BK110 := n1_
         have HB := n2_
         clear n0_ n1_ n2_
         refine start_ (n := 18) (S := fun w' => True) (ds := []) #[false, false, false, false, false, false, false, false, false, false, false, false, false, false, false, false, false, false] (by kernel_rfl) rfl rfl trivial (fun hHeld => ?_); refine with_tabW edits_Normal.tab9 edits_Normal.bits9 (fun HT_ HW_ => ?_)
         generalize w38.drew = w39 at HO_9 BK110 HB hHeld ⊢
         refine pure_ (i := 0) (N := some 29) (v := ?_) (a' := ?_) #[true, false, false, false, false, false, false, false, false, false, false, false, false, false, false, false, false, false] rfl rfl (any_of HT_.out (by kernel_rfl)) (fun _ _ _ h => h) (Or.inl ⟨by rfl, ?_⟩) ?_ ?_
         rotate_left
         ·intro w'
          go_simp
          with_reducible rfl
         rotate_left
         ·simp only [Act.put, List.setIfInBounds_toArray, List.set_cons_zero, List.set_cons_succ, i64_w, i32_w]
          rfl
         refine pure_ (i := 1) (N := some 30) (v := ?_) (a' := ?_) #[true, true, false, false, false, false, false, false, false, false, false, false, false, false, false, false, false, false] rfl rfl (any_of HT_.out (by kernel_rfl)) (fun _ _ _ h => h) (Or.inl ⟨by rfl, ?_⟩) ?_ ?_
         rotate_left
         ·intro w'
          go_simp
          with_reducible rfl
         rotate_left
         ·simp only [Act.put, List.setIfInBounds_toArray, List.set_cons_zero, List.set_cons_succ, i64_w, i32_w]
          rfl
         refine pure_ (i := 2) (N := some 31) (v := ?_) (a' := ?_) #[true, true, true, false, false, false, false, false, false, false, false, false, false, false, false, false, false, false] rfl rfl (any_of HT_.out (by kernel_rfl)) (fun _ _ _ h => h) (Or.inl ⟨by rfl, ?_⟩) ?_ ?_
         rotate_left
         ·intro w'
          go_simp
          with_reducible rfl
         rotate_left
         ·simp only [Act.put, List.setIfInBounds_toArray, List.set_cons_zero, List.set_cons_succ, i64_w, i32_w]
          rfl
         refine pure_ (i := 3) (N := some 32) (v := undef) (a' := ?_) #[true, true, true, true, false, false, false, false, false, false, false, false, false, false, false, false, false, false] rfl rfl (any_of HT_.out (by kernel_rfl)) (fun _ _ _ h => h) (Or.inr ⟨by rfl, rfl⟩) ?_ ?_
         rotate_left
         ·simp only [Act.put, List.setIfInBounds_toArray, List.set_cons_zero, List.set_cons_succ, i64_w, i32_w]
          rfl
         refine pure_ (i := 4) (N := some 33) (v := undef) (a' := ?_) #[true, true, true, true, true, false, false, false, false, false, false, false, false, false, false, false, false, false] rfl rfl (any_of HT_.out (by kernel_rfl)) (fun _ _ _ h => h) (Or.inr ⟨by rfl, rfl⟩) ?_ ?_
         rotate_left
         ·simp only [Act.put, List.setIfInBounds_toArray, List.set_cons_zero, List.set_cons_succ, i64_w, i32_w]
          rfl
         refine pure_ (i := 5) (N := some 34) (v := undef) (a' := ?_) #[true, true, true, true, true, true, false, false, false, false, false, false, false, false, false, false, false, false] rfl rfl (any_of HT_.out (by kernel_rfl)) (fun _ _ _ h => h) (Or.inr ⟨by rfl, rfl⟩) ?_ ?_
         rotate_left
         ·simp only [Act.put, List.setIfInBounds_toArray, List.set_cons_zero, List.set_cons_succ, i64_w, i32_w]
          rfl
         refine pure_ (i := 6) (N := some 35) (v := undef) (a' := ?_) #[true, true, true, true, true, true, true, false, false, false, false, false, false, false, false, false, false, false] rfl rfl (any_of HT_.out (by kernel_rfl)) (fun _ _ _ h => h) (Or.inr ⟨by rfl, rfl⟩) ?_ ?_
         rotate_left
         ·simp only [Act.put, List.setIfInBounds_toArray, List.set_cons_zero, List.set_cons_succ, i64_w, i32_w]
          rfl
         refine pure_ (i := 7) (N := some 36) (v := undef) (a' := ?_) #[true, true, true, true, true, true, true, true, false, false, false, false, false, false, false, false, false, false] rfl rfl (any_of HT_.out (by kernel_rfl)) (fun _ _ _ h => h) (Or.inr ⟨by rfl, rfl⟩) ?_ ?_
         rotate_left
         ·simp only [Act.put, List.setIfInBounds_toArray, List.set_cons_zero, List.set_cons_succ, i64_w, i32_w]
          rfl
         refine pure_ (i := 8) (N := some 37) (v := undef) (a' := ?_) #[true, true, true, true, true, true, true, true, true, false, false, false, false, false, false, false, false, false] rfl rfl (any_of HT_.out (by kernel_rfl)) (fun _ _ _ h => h) (Or.inr ⟨by rfl, rfl⟩) ?_ ?_
         rotate_left
         ·simp only [Act.put, List.setIfInBounds_toArray, List.set_cons_zero, List.set_cons_succ, i64_w, i32_w]
          rfl
         refine pure_ (i := 9) (N := some 38) (v := undef) (a' := ?_) #[true, true, true, true, true, true, true, true, true, true, false, false, false, false, false, false, false, false] rfl rfl (any_of HT_.out (by kernel_rfl)) (fun _ _ _ h => h) (Or.inr ⟨by rfl, rfl⟩) ?_ ?_
         rotate_left
         ·simp only [Act.put, List.setIfInBounds_toArray, List.set_cons_zero, List.set_cons_succ, i64_w, i32_w]
          rfl
         refine pure_ (i := 10) (N := some 39) (v := undef) (a' := ?_) #[true, true, true, true, true, true, true, true, true, true, true, false, false, false, false, false, false, false] rfl rfl (any_of HT_.out (by kernel_rfl)) (fun _ _ _ h => h) (Or.inr ⟨by rfl, rfl⟩) ?_ ?_
         rotate_left
         ·simp only [Act.put, List.setIfInBounds_toArray, List.set_cons_zero, List.set_cons_succ, i64_w, i32_w]
          rfl
         refine pure_ (i := 11) (N := some 40) (v := undef) (a' := ?_) #[true, true, true, true, true, true, true, true, true, true, true, true, false, false, false, false, false, false] rfl rfl (any_of HT_.out (by kernel_rfl)) (fun _ _ _ h => h) (Or.inr ⟨by rfl, rfl⟩) ?_ ?_
         rotate_left
         ·simp only [Act.put, List.setIfInBounds_toArray, List.set_cons_zero, List.set_cons_succ, i64_w, i32_w]
          rfl
         refine pure_ (i := 12) (N := some 41) (v := undef) (a' := ?_) #[true, true, true, true, true, true, true, true, true, true, true, true, true, false, false, false, false, false] rfl rfl (any_of HT_.out (by kernel_rfl)) (fun _ _ _ h => h) (Or.inr ⟨by rfl, rfl⟩) ?_ ?_
         rotate_left
         ·simp only [Act.put, List.setIfInBounds_toArray, List.set_cons_zero, List.set_cons_succ, i64_w, i32_w]
          rfl
         refine pure_ (i := 13) (N := some 42) (v := undef) (a' := ?_) #[true, true, true, true, true, true, true, true, true, true, true, true, true, true, false, false, false, false] rfl rfl (any_of HT_.out (by kernel_rfl)) (fun _ _ _ h => h) (Or.inr ⟨by rfl, rfl⟩) ?_ ?_
         rotate_left
         ·simp only [Act.put, List.setIfInBounds_toArray, List.set_cons_zero, List.set_cons_succ, i64_w, i32_w]
          rfl
         refine pure_ (i := 14) (N := some 43) (v := undef) (a' := ?_) #[true, true, true, true, true, true, true, true, true, true, true, true, true, true, true, false, false, false] rfl rfl (any_of HT_.out (by kernel_rfl)) (fun _ _ _ h => h) (Or.inr ⟨by rfl, rfl⟩) ?_ ?_
         rotate_left
         ·simp only [Act.put, List.setIfInBounds_toArray, List.set_cons_zero, List.set_cons_succ, i64_w, i32_w]
          rfl
         refine pure_ (i := 15) (N := some 44) (v := undef) (a' := ?_) #[true, true, true, true, true, true, true, true, true, true, true, true, true, true, true, true, false, false] rfl rfl (any_of HT_.out (by kernel_rfl)) (fun _ _ _ h => h) (Or.inr ⟨by rfl, rfl⟩) ?_ ?_
         rotate_left
         ·simp only [Act.put, List.setIfInBounds_toArray, List.set_cons_zero, List.set_cons_succ, i64_w, i32_w]
          rfl
         refine pure_ (i := 16) (N := some 45) (v := undef) (a' := ?_) #[true, true, true, true, true, true, true, true, true, true, true, true, true, true, true, true, true, false] rfl rfl (any_of HT_.out (by kernel_rfl)) (fun _ _ _ h => h) (Or.inr ⟨by rfl, rfl⟩) ?_ ?_
         rotate_left
         ·simp only [Act.put, List.setIfInBounds_toArray, List.set_cons_zero, List.set_cons_succ, i64_w, i32_w]
          rfl
         refine pure_ (i := 17) (N := some 46) (v := ?_) (a' := ?_) #[true, true, true, true, true, true, true, true, true, true, true, true, true, true, true, true, true, true] rfl rfl (any_of HT_.out (by kernel_rfl)) (fun _ _ _ h => h) (Or.inl ⟨by rfl, ?_⟩) ?_ ?_
         rotate_left
         ·intro w'
          go_simp
          with_reducible rfl
         rotate_left
         ·simp only [Act.put, List.setIfInBounds_toArray, List.set_cons_zero, List.set_cons_succ, i64_w, i32_w]
          rfl
         refine done_ (done_of HT_.out (by kernel_rfl)) ?_
         have hcz40_0 : w39.cell? ⟨gb110, 0, none⟩ = some (.int .i64 ((rd_T43 l0 x22_1).f0)) := (blk_cell BK110.out 0).trans rfl
         have hcz40_1 : w39.cell? ⟨gb110, 1, none⟩ = some (.int .i64 ((rd_T43 l0 x22_1).f1)) := (blk_cell BK110.out 1).trans rfl
         have hcz40_2 : w39.cell? ⟨gb110, 2, none⟩ = some (.int .i64 ((rd_T43 l0 x22_1).f2)) := (blk_cell BK110.out 2).trans rfl
         have hcz40_3 : w39.cell? ⟨gb110, 3, none⟩ = some (.int .i64 ((rd_T43 l0 x22_1).f3)) := (blk_cell BK110.out 3).trans rfl
         have hfz40_0 := blk_frozen BK110.out 0
         have hfz40_1 := blk_frozen BK110.out 1
         have hfz40_2 := blk_frozen BK110.out 2
         have hfz40_3 := blk_frozen BK110.out 3
         try go_wp2_with (first | ((with_reducible refine gate_builtin (b := .append) (xs := #[.tmp 67, .tmp 69]) rfl ?_); at_builtin; refine Kd.R_append k43 (w0 := w) w.heap.size rfl (.tmp 67) (.tmp 69) 22 43 (.agg #[(.int .i64 0), (.int .i64 0), (.int .i64 0), (.int .i64 0)]) 32 rfl Tryd.underlying22 info43 rfl (by decide) (by omega) (.slice Ao37 x9_1.length co37) x9_1 (⟨(rd_T43 l0 x22_1).f0, (rd_T43 l0 x22_1).f1, (rd_T43 l0 x22_1).f2, (rd_T43 l0 x22_1).f3⟩ : S43) [.int .i64 ((rd_T43 l0 x22_1).f0), .int .i64 ((rd_T43 l0 x22_1).f1), .int .i64 ((rd_T43 l0 x22_1).f2), .int .i64 ((rd_T43 l0 x22_1).f3)] (fun k_ => k_ ≠ gb110) (fun _ => False) rfl rfl ?aP (fun _ hk => hk.elim) ?aF ?aO ?aB ?aS ?aL ?_; (case aP => exact k43_mkM _ _ _ (⟨(rd_T43 l0 x22_1).f0, (rd_T43 l0 x22_1).f1, (rd_T43 l0 x22_1).f2, (rd_T43 l0 x22_1).f3⟩ : S43)); (case aB => exact (belPut)); (case aF => exact (fun k_ hk => Kd.freshB (g := gb110) (o := .cells #[.int .i64 ((rd_T43 l0 x22_1).f0), .int .i64 ((rd_T43 l0 x22_1).f1), .int .i64 ((rd_T43 l0 x22_1).f2), .int .i64 ((rd_T43 l0 x22_1).f3)] 43 (0, 0)) (bkUp BK110.out) k_ hk)); (case aO => exact (kdUp HO_9.out)); (case aS => exact (below_size (belPut))); (case aL => have := LMc34.out; omega); intro v121 w41 ho hb hg hat; rw [← Ny120.out] at ho; have n0_ := Aside0.mk (blk_grown (g := gb110) (o := .cells #[.int .i64 ((rd_T43 l0 x22_1).f0), .int .i64 ((rd_T43 l0 x22_1).f1), .int .i64 ((rd_T43 l0 x22_1).f2), .int .i64 ((rd_T43 l0 x22_1).f3)] 43 (0, 0)) (bkUp BK110.out) hg (Kd.R_away HO_9.out (fun _ hk => hk))); have n1_ := Aside0.mk (hb); have n2_ := Aside0.mk (ho); clear BK110; clear HB; clear HO_9; have BK110 := n0_; have HB := n1_; have HO122 := n2_; clear n0_ n1_ n2_; clear ho hb hg hat))
         go_roundg k1
         case measure => have := HK1.out; omega
         case rel => exact ⟨(y120), (wrap64 (x22_1 + 1)), eqNow, H', ⟨by have := HK1.out; omega⟩, ⟨by (with_reducible repeat (first | apply Kd.R_alloc | apply Kd.R_drewN | apply Kd.R_drew)); exact Kd.R_mono HO122.out (fun _ hk => trivial)⟩, ⟨belPut⟩⟩
        ·rw [if_neg c34] at H
         exact absurd H (by simp)
      ·rw [if_neg c8] at H
       exact absurd H (by simp)
     ·rw [if_neg c7] at H
      exact absurd H (by simp)
    ·rw [if_neg c6] at H
     have c6b0 : decide (x22_1 < (l0.length : Int)) = false := decide_eq_false c6
     clear c6
     simp only [Option.some.injEq, Prod.mk.injEq] at H
     obtain ⟨rfl, rfl⟩ := H
     go_wp2
     go_ret2
     exact ⟨_, eqEnd, by (with_reducible repeat (first | apply Kd.R_alloc | apply Kd.R_drewN | apply Kd.R_drew)); exact HO_9.out, belNow⟩
 ·have H1 : (some (([] : List (S43)), some q108)) = some (r1, r2) := by rw [if_neg (show ¬ (some q108).isNone = true by simp)] at H; exact H
  clear H
  have H := H1
  clear H1
  try simp only [errW_none, errW_some]
  simp only [Option.some.injEq, Prod.mk.injEq] at H
  obtain ⟨rfl, rfl⟩ := H
  go_enter Tryd.func18, Tryd.ntmps18
  go_wp2_with (first | ((with_reducible refine gate_callee (f := 27) rfl ?_); refine goesL_ (some 16) rfl rfl Tryd.func27 (by kernel_rfl) rfl #[.slice A0 l0.length c0, .int .i64 a1, .int .i64 a2] rfl argsOk ?_; (with_reducible refine (edits_Valid.calls k _ _ l0 a1 a2 (some q108) _ ?side1 ?side2 A4.out).mono ?_); (case side1 => repeat (first | exact HR0.out | (with_reducible refine Kd.C_alloc ?_ _) | (with_reducible refine Kd.C_drewN ?_ _) | (with_reducible refine Kd.C_drew ?_))); (case side2 => exact HC0.out); rintro e w42 ⟨rfl, hb⟩; refine ⟨_, rfl, ?_⟩; have n0_ := Aside0.mk (below_step belNow hb); clear HB; have HB := n0_; clear n0_; (try clear hb); (try clear hb2); (try clear hk); (try clear hi); (try simp only [errW_none, errW_some])))
  go_ret2
  exact ⟨_, eqEnd, by first | exact Kd.R_nil _ _ _ _ _ | exact Kd.N_nil _ _ _ _ _ | exact Kd.V_nil _ _ _ _ _ | exact Kd.Q_nil _ _ _ _ _ | exact Kd.S_nil _ _ _ _ _, belNow⟩
end Go.Proofs.YtmfanpibpmajnaaDoor.Pp
