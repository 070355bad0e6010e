import Derived.Test.YtecjoofjiockkaaDoorESt
import Derived.Test.YtecjoofjiockkaaDoorPp0
import Derived.Test.YtecjoofjiockkaaDoorPp2
import Derived.Test.YtecjoofjiockkaaDoorPp3
import Derived.Test.YtecjoofjiockkaaDoorPp4
import Derived.Test.YtecjoofjiockkaaDoorPp7
import Derived.Test.YtecjoofjiockkaaDoorPp8
import Derived.Test.YtecjoofjiockkaaDoorPp10
import Derived.Test.YtecjoofjiockkaaDoorPp11
import Derived.Test.YtecjoofjiockkaaDoorPp12
import Derived.Test.YtecjoofjiockkaaDoorPp13
import Derived.Test.YtecjoofjiockkaaDoorPp14
import Derived.Test.YtecjoofjiockkaaDoorPp15
import Derived.Test.YtecjoofjiockkaaDoorPp16
import Derived.Test.YtecjoofjiockkaaDoorPp17
import Derived.Test.YtecjoofjiockkaaDoorPp18
import Derived.Test.YtecjoofjiockkaaDoorPp19
import Derived.Test.YtecjoofjiockkaaDoorPp21
import Derived.Test.YtecjoofjiockkaaDoorPp26
namespace Go.Proofs.YtecjoofjiockkaaDoor.Pp
open Go.RowKit Go.Proofs.YtecjoofjiockkaaDoor.Ext Go.Proofs.YtecjoofjiockkaaDoorW.PrintWords Go.Proofs.YtecjoofjiockkaaDoorW.PrintLast Go.Proofs.YtecjoofjiockkaaDoorW.PrintMore
attribute [local go_sem] max2_int min2_int max_two min_two max_three min_three max_four min_four   -- for this text's walks alone
set_option linter.unusedVariables false
set_option linter.unusedSimpArgs false
def edits_Invert.l0 : Nat → List (S53) → List (S53) → Int → Int → Option ((List (S53)))
 | 0, _, _, _, _ => none
 | k + 1, x3, x6, x7, x8 => if x8 < x7 then (if 0 ≤ x8 then (if x8 < (x6.length : Int) then (if x3.length < 4398046511104 then (edits_Invert.l0 k (x3 ++ [(⟨(rd_T53 x6 x8).f2, (rd_T53 x6 x8).f3, (rd_T53 x6 x8).f0, (rd_T53 x6 x8).f1⟩ : S53)]) x6 x7 (wrap64 (x8 + 1))) else (none)) else (none)) else (none)) else (some x3)
def edits_Invert.f (k : Nat) (l0 : List (S53)) : Option ((List (S53))) := edits_Invert.l0 k ([] : List (S53)) l0 (l0.length : Int) 0
set_option maxHeartbeats 8000000 in
set_option maxRecDepth 100000 in
theorem edits_Invert.calls (k : Nat) (A0 : Option Addr) (c0 : Nat) (l0 : List (S53)) (r : List (S53)) (w : World) (hr0 : Kd.C k53 w A0 l0.length l0) (hc0 : l0.length ≤ c0) (h : edits_Invert.f k l0 = some r) :
  Calls Tryd.prog 10 #[.slice A0 l0.length c0] w fun e w' => ∃ v0_ : Value, e = .returned (v0_) ∧ Kd.R k53 53 w' w.heap.size (fun _ => True) v0_ r ∧ Below w.heap.size w w' := by
 have hu53 := Tryd.underlying53
 have HR0 := Aside0.mk hr0
 have HC0 := Aside0.mk hc0
 clear hr0 hc0
 have HB := Aside0.mk (Below.refl w.heap.size w)
 have H := h
 clear h
 unfold edits_Invert.f at H
 have H' := Aside0.mk H
 clear H
 go_enter Tryd.func10, Tryd.ntmps10
 go_wp2
 go_loopg [3, 8] k (fun kq v3 v8 w' => ∃ (x3_1 : List (S53)) (x8_1 : Int), v8 = .int .i64 x8_1 ∧ Aside0 (edits_Invert.l0 kq x3_1 l0 (l0.length : Int) x8_1 = some r) ∧ Aside0 (kq ≤ k) ∧ Aside0 (Kd.R k53 53 w' w.heap.size (fun _ => True) v3 x3_1) ∧ Aside0 (Below w.heap.size w w'))
 case atStart => exact ⟨(([] : List (S53))), (0), eqNow, H', ⟨Nat.le_refl _⟩, ⟨by first | exact Kd.R_nil _ _ _ _ _ | exact Kd.N_nil _ _ _ _ _ | exact Kd.V_nil _ _ _ _ _ | exact Kd.Q_nil _ _ _ _ _ | exact Kd.S_nil _ _ _ _ _⟩, ⟨belNow⟩⟩
 case round =>
  clear H'
  obtain ⟨x3_1, x8_1, rfl, HA, HK1, HO_3, HB⟩ := hrel
  cases gk with
  | zero => exact absurd HA.out (by simp [edits_Invert.l0])
  | succ k1 =>
   have H := HA.out
   clear HA
   simp only [edits_Invert.l0] at H
   replace H := itLn H
   rcases H with ⟨-, c2b0, H⟩ | ⟨-, c2b0, H⟩
   ·obtain rfl := Option.some.inj H
    go_wp2
    go_ret
    exact ⟨_, eqEnd, by (with_reducible repeat (first | apply Kd.R_alloc | apply Kd.R_drewN | apply Kd.R_drew)); exact HO_3.out, belNow⟩
   replace H := itLn H
   rcases H with ⟨_, _, H⟩ | ⟨-, c3b0, H⟩
   ·cases H
   replace H := itLn H
   rcases H with ⟨_, _, H⟩ | ⟨-, c4b0, H⟩
   ·cases H
   replace H := itLn H
   rcases H with ⟨_, _, H⟩ | ⟨c5, -, H⟩
   ·cases H
   have LMc5 := Aside0.mk c5
   clear c5
   obtain ⟨y408, hy408⟩ : ∃ y_ : List (S53), y_ = (x3_1 ++ [(⟨(rd_T53 l0 x8_1).f2, (rd_T53 l0 x8_1).f3, (rd_T53 l0 x8_1).f0, (rd_T53 l0 x8_1).f1⟩ : S53)]) := ⟨_, rfl⟩
   replace H : (edits_Invert.l0 k1 y408 l0 (l0.length : Int) (wrap64 (x8_1 + 1))) = some r := by first | (rw [hy408]; with_reducible exact H) | (have H2_ := (Option.bind_some _ _).symm.trans H; rw [hy408]; with_reducible exact H2_) | (have H2_ := (Option.bind_some _ _).symm.trans H; with_reducible exact H2_) | with_reducible exact H | (rw [hy408]; exact H) | exact H
   have Ny408 := Aside0.mk hy408
   clear hy408
   have H' := Aside0.mk H
   clear H
   obtain ⟨ad406, rfl, hx406_0, hx406_1, hx406_2, hx406_3, p406, q406⟩ := atU_T53 HR0 HB x8_1
   go_wp2_with (first | ((with_reducible refine gate_dst (N := 5) rfl ?_); refine boxEv (N := 5) #[.int .i64 0, .int .i64 0, .int .i64 0, .int .i64 0] 53 ?_; intro gb407 hg w6 hbox hb; replace HO_3 := Aside0.mk (Kd.R_below (Kd.R_elderB (kdUp HO_3.out) gb407 (Nat.le_of_eq hg.symm)) hb); have BK407 := Aside0.mk hbox; have GW407 := gwN HB hg; have GE407 := GW407; replace HB := hbD HB hb; clear hb hbox hg; obtain ⟨hcz7_0, hcz7_1, hcz7_2, hcz7_3, hfz7_0, hfz7_1, hfz7_2, hfz7_3⟩ := bcf4 (W := w6) BK407) | ((with_reducible refine gate_builtin (b := .append) (xs := #[.tmp 12, .tmp 22]) rfl ?_); at_builtin; refine Kd.R_append k53 (w0 := w) w.heap.size rfl (.tmp 12) (.tmp 22) 22 53 (.agg #[(.int .i64 0), (.int .i64 0), (.int .i64 0), (.int .i64 0)]) 32 rfl Tryd.underlying22 info53 rfl (by decide) (by omega) u3 x3_1 (⟨(rd_T53 l0 x8_1).f2, (rd_T53 l0 x8_1).f3, (rd_T53 l0 x8_1).f0, (rd_T53 l0 x8_1).f1⟩ : S53) [.int .i64 ((rd_T53 l0 x8_1).f2), .int .i64 ((rd_T53 l0 x8_1).f3), .int .i64 ((rd_T53 l0 x8_1).f0), .int .i64 ((rd_T53 l0 x8_1).f1)] (fun k_ => k_ ≠ gb407) (fun _ => False) rfl (by first | (go_simp; done) | (go_simp; rfl)) ?aP (fun _ hk => hk.elim) ?aF ?aO ?aB ?aS ?aL ?_; (case aP => exact k53_mkM _ _ _ (⟨(rd_T53 l0 x8_1).f2, (rd_T53 l0 x8_1).f3, (rd_T53 l0 x8_1).f0, (rd_T53 l0 x8_1).f1⟩ : S53)); (case aB => exact (belPut)); (case aF => exact (fun k_ hk => Kd.freshB (g := gb407) (o := .cells #[.int .i64 ((rd_T53 l0 x8_1).f0), .int .i64 ((rd_T53 l0 x8_1).f1), .int .i64 ((rd_T53 l0 x8_1).f2), .int .i64 ((rd_T53 l0 x8_1).f3)] 53 (0, 0)) (bkT BK407) k_ hk)); (case aO => exact (by (with_reducible repeat (first | apply Kd.R_alloc | apply Kd.R_drewN | apply Kd.R_drew)); exact Kd.R_mono (Kd.R_far (p := ⟨gb407, 3, none⟩) (Kd.R_far (p := ⟨gb407, 2, none⟩) (Kd.R_far (p := ⟨gb407, 1, none⟩) (Kd.R_far (p := ⟨gb407, 0, none⟩) (Kd.R_mono HO_3.out (fun k_ hk => (⟨hk, hk.2⟩ : _ ∧ k_ ≠ gb407))) (fun _ hk => hk.2) (.int .i64 ((rd_T53 l0 x8_1).f0))) (fun _ hk => hk.2) (.int .i64 ((rd_T53 l0 x8_1).f1))) (fun _ hk => hk.2) (.int .i64 ((rd_T53 l0 x8_1).f2))) (fun _ hk => hk.2) (.int .i64 ((rd_T53 l0 x8_1).f3))) (fun _ hk => hk.1.2))); (case aS => exact (below_size (belPut))); (case aL => have := LMc5.out; omega); intro v409 w8 ho hb hg hat; rw [← Ny408.out] at ho; replace BK407 := Aside0.mk (blk_grown (g := gb407) (o := .cells #[.int .i64 ((rd_T53 l0 x8_1).f0), .int .i64 ((rd_T53 l0 x8_1).f1), .int .i64 ((rd_T53 l0 x8_1).f2), .int .i64 ((rd_T53 l0 x8_1).f3)] 53 (0, 0)) (bkT BK407) hg (Kd.R_away HO_3.out (fun _ hk => hk.2))); replace HB := Aside0.mk hb; have HO410 := Aside0.mk (ho); clear HO_3; clear ho hb hg hat))
   go_roundg k1
   case measure => have := HK1.out; omega
   case rel => exact ⟨(y408), (wrap64 (x8_1 + 1)), eqNow, H', ⟨by have := HK1.out; omega⟩, ⟨by (with_reducible repeat (first | apply Kd.R_alloc | apply Kd.R_drewN | apply Kd.R_drew)); exact Kd.R_mono HO410.out (fun _ hk => trivial)⟩, ⟨belPut⟩⟩
end Go.Proofs.YtecjoofjiockkaaDoor.Pp
