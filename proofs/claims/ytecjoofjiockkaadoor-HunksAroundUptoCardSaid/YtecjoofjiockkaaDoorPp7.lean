import Derived.Test.YtecjoofjiockkaaDoorESt
import Derived.Test.YtecjoofjiockkaaDoorPp0
import Derived.Test.YtecjoofjiockkaaDoorPp6
set_option linter.unusedVariables false
set_option linter.unusedSimpArgs false
namespace Go.Proofs.YtecjoofjiockkaaDoor.Pp
open Go.RowKit Go.Proofs.YtecjoofjiockkaaDoor.Ext Go.Proofs.YtecjoofjiockkaaDoorW.PrintWords Go.Proofs.YtecjoofjiockkaaDoorW.PrintLast Go.Proofs.YtecjoofjiockkaaDoorW.PrintMore
attribute [local go_sem] max2_int min2_int max_two min_two max_three min_three max_four min_four
def selvagelaw10_twins.l0 : Nat → List (S41) → List (S41) → Int → Option ((List (S41)))
 | 0, _, _, _ => none
 | k + 1, x0, x3, x4 => if x4 < (x0.length : Int) then (if 0 ≤ x4 then ((selvagelaw10_twin.f ((rd_T41 x0 x4).f0) ((rd_T41 x0 x4).f1) ((rd_T41 x0 x4).f2) ((rd_T41 x0 x4).f3) ((rd_T41 x0 x4).f4) ((rd_T41 x0 x4).f5)).bind fun bt156 => (if x3.length < 1954687338268 then (selvagelaw10_twins.l0 k x0 (x3 ++ [(⟨bt156.1, bt156.2.1, bt156.2.2.1, bt156.2.2.2.1, bt156.2.2.2.2.1, bt156.2.2.2.2.2⟩ : S41)]) (wrap64 (x4 + 1))) else (none))) else (none)) else (some x3)
def selvagelaw10_twins.f (k : Nat) (l0 : List (S41)) : Option ((List (S41))) := selvagelaw10_twins.l0 k l0 ([] : List (S41)) 0
set_option maxHeartbeats 8000000 in
set_option maxRecDepth 100000 in
theorem selvagelaw10_twins.calls (k : Nat) (A0 : Option Addr) (c0 : Nat) (l0 : List (S41)) (r : List (S41)) (w : World) (hr0 : Kd.C k41 w A0 l0.length l0) (hc0 : l0.length ≤ c0) (h : selvagelaw10_twins.f k l0 = some r) :
  Calls Tryd.prog 16 #[.slice A0 l0.length c0] w fun e w' => ∃ v0_ : Value, e = .returned (v0_) ∧ Kd.S k41 41 w' w.heap.size (fun _ => True) v0_ r ∧ Below w.heap.size w w' := by
 have hu29 := Tryd.underlying41
 have HR0 := Aside0.mk hr0
 have HC0 := Aside0.mk hc0
 clear hr0 hc0
 have HB := Aside0.mk (Below.refl w.heap.size w)
 have H := h
 clear h
 unfold selvagelaw10_twins.f at H
 have H' := Aside0.mk H
 clear H
 go_enter Tryd.func16, Tryd.ntmps16
 go_wp2
 go_loopg [3, 4] k (fun kq v3 v4 w' => ∃ (x3_1 : List (S41)) (x4_1 : Int), v4 = .int .i64 x4_1 ∧ Aside0 (selvagelaw10_twins.l0 kq l0 x3_1 x4_1 = some r) ∧ Aside0 (kq ≤ k) ∧ Aside0 (Kd.S k41 41 w' w.heap.size (fun _ => True) v3 x3_1) ∧ Aside0 (Below w.heap.size w w'))
 case atStart => exact ⟨(([] : List (S41))), (0), eqNow, H', ⟨Nat.le_refl _⟩, ⟨kNil⟩, ⟨belNow⟩⟩
 case round =>
  clear H'
  obtain ⟨x3_1, x4_1, rfl, HA, HK1, HO_3, HB⟩ := hrel
  cases gk with
  | zero => exact absurd HA.out (by simp [selvagelaw10_twins.l0])
  | succ k1 =>
   have H := HA.out
   clear HA
   simp only [selvagelaw10_twins.l0] at H
   replace H := itLn H
   rcases H with ⟨-, c2b0, H⟩ | ⟨-, c2b0, H⟩
   ·obtain rfl := Option.some.inj H
    go_wp2
    go_ret
    exact ⟨_, eqEnd, by (with_reducible repeat (first | apply Kd.S_alloc | apply Kd.S_drewN | apply Kd.S_drew)); exact HO_3.out, belNow⟩
   replace H := itLn H
   rcases H with ⟨_, _, H⟩ | ⟨-, c3b0, H⟩
   ·cases H
   replace H := bdS H
   obtain ⟨⟨t156, t157, t158, t159, t160, t161⟩, A4, H⟩ := H
   replace H : (if x3_1.length < 1954687338268 then (selvagelaw10_twins.l0 k1 l0 (x3_1 ++ [(⟨t156, t157, t158, t159, t160, t161⟩ : S41)]) (wrap64 (x4_1 + 1))) else (none)) = some r := H
   replace H := itLn H
   rcases H with ⟨_, _, H⟩ | ⟨c5, -, H⟩
   ·cases H
   have LMc5 := Aside0.mk c5
   clear c5
   obtain ⟨y164, hy164⟩ : ∃ y_ : List (S41), y_ = (x3_1 ++ [(⟨t156, t157, t158, t159, t160, t161⟩ : S41)]) := ⟨_, rfl⟩
   replace H : (selvagelaw10_twins.l0 k1 l0 y164 (wrap64 (x4_1 + 1))) = some r := by first | (rw [hy164]; with_reducible exact H) | (have H2_ := (Option.bind_some _ _).symm.trans H; rw [hy164]; with_reducible exact H2_) | (have H2_ := (Option.bind_some _ _).symm.trans H; with_reducible exact H2_) | with_reducible exact H | (rw [hy164]; exact H) | exact H
   have Ny164 := Aside0.mk hy164
   clear hy164
   have H' := Aside0.mk H
   clear H
   obtain ⟨ad155, A155_5, c155_5, rfl, hx155_0, hx155_1, hx155_2, hx155_3, hx155_4, hx155_5, HC155_5, HR155_5, p155, q155⟩ := atU_T41 HR0 HB x4_1
   go_wp2_with (first | ((with_reducible refine gate_callee (f := 32) rfl ?_); refine goL (some 16) Tryd.func32 #[.agg #[.int .i64 ((rd_T41 l0 x4_1).f0), .int .i64 ((rd_T41 l0 x4_1).f1), .int .i64 ((rd_T41 l0 x4_1).f2), .int .i64 ((rd_T41 l0 x4_1).f3), .string ((rd_T41 l0 x4_1).f4), .slice A155_5 ((rd_T41 l0 x4_1).f5).length c155_5]] ?_; (with_reducible refine (selvagelaw10_twin.calls ((rd_T41 l0 x4_1).f0) ((rd_T41 l0 x4_1).f1) ((rd_T41 l0 x4_1).f2) ((rd_T41 l0 x4_1).f3) ((rd_T41 l0 x4_1).f4) _ _ ((rd_T41 l0 x4_1).f5) t156 t157 t158 t159 t160 t161 _ ?side1 ?side2 A4.out).mono ?_); (case side1 => exact kcU HR155_5 HB); (case side2 => exact HC155_5.out); rintro e w6 ⟨v162, rfl, ho0, hb⟩; refine ⟨_, rfl, ?_⟩; replace HO_3 := Aside0.mk (Kd.S_elder' (by (with_reducible repeat (first | apply Kd.S_alloc | apply Kd.S_drewN | apply Kd.S_drew)); exact HO_3.out) (Kd.R_base ho0) hb); have HO163 := Aside0.mk (Kd.R_lower ho0 (below_size belNow)); replace HB := hbD HB hb; clear hb; (try clear ho0); obtain ⟨Ao8, co8, eo8⟩ := Kd.R_slice HO163.out; subst eo8) | ((with_reducible refine gate_builtin (b := .append) (xs := #[.tmp 11, .tmp 17]) rfl ?_); at_builtin; refine Kd.S_append k41 (w0 := w) w.heap.size rfl (.tmp 11) (.tmp 17) 26 41 (.agg #[(.int .i64 0), (.int .i64 0), (.int .i64 0), (.int .i64 0), (.string ⟨#[]⟩), (.slice none 0 0)]) 72 rfl Tryd.underlying26 info41 rfl (by decide) (by omega) u3 x3_1 (⟨t156, t157, t158, t159, t160, t161⟩ : S41) [.int .i64 t156, .int .i64 t157, .int .i64 t158, .int .i64 t159, .string t160, .slice Ao8 t161.length co8] (fun _ => True) (fun k_ => some k_ = (.slice Ao8 t161.length co8 : Value).ownBlock) rfl rfl ?aP (fun k_ hk_ => ((Kd.R_mono (ok' := fun k_ => ((fun _ => True)) k_ ∧ some k_ ≠ (u3 : Value).ownBlock) (Kd.R_apart' (HO163.out) (Kd.S_typed HO_3.out) (by decide)) (fun k_ hk => ⟨trivial, hk.2⟩))).1 k_ hk_.symm) ?aF ?aO ?aB ?aS ?aL ?_; (case aP => exact k41_mkM _ _ _ (⟨t156, t157, t158, t159, t160, t161⟩ : S41) (Kd.R_mono (Kd.R_tight rfl (Kd.R_mono (ok' := fun k_ => ((fun _ => True)) k_ ∧ some k_ ≠ (u3 : Value).ownBlock) (Kd.R_apart' (HO163.out) (Kd.S_typed HO_3.out) (by decide)) (fun k_ hk => ⟨trivial, hk.2⟩))) (fun _ h_ => h_))); (case aB => exact belNow); (case aF => exact (fun _ _ => trivial)); (case aO => exact (by (with_reducible repeat (first | apply Kd.S_alloc | apply Kd.S_drewN | apply Kd.S_drew)); exact Kd.S_mono HO_3.out (fun k_ hk => ⟨trivial, fun e_ => hk.2 e_⟩))); (case aS => exact (below_size belNow)); (case aL => have := LMc5.out; omega); intro v165 w7 ho hb hg hat; rw [← Ny164.out] at ho; replace HB := Aside0.mk hb; have HO166 := Aside0.mk (ho); clear HO_3 HO163; clear ho hb hg hat))
   go_roundg k1
   case measure => have := HK1.out; omega
   case rel => exact ⟨(y164), (wrap64 (x4_1 + 1)), eqNow, H', ⟨by have := HK1.out; omega⟩, ⟨kdMv HO166⟩, ⟨belNow⟩⟩
def hunks_ahead.f (a0 : Int) (a1 : Int) : Option (Int) := if a1 > 0 then (some (wrap64 (a0 - 1))) else (some a0)
set_option maxHeartbeats 8000000 in
set_option maxRecDepth 100000 in
theorem hunks_ahead.calls (a0 : Int) (a1 : Int) (r : Int) (w : World) (h : hunks_ahead.f a0 a1 = some r) :
  Calls Tryd.prog 30 #[.int .i64 a0, .int .i64 a1] w fun e w' => e = .returned (.int .i64 r) ∧ Drawn0 w w' := by
 have H := h
 clear h
 unfold hunks_ahead.f at H
 replace H := itG H
 rcases H with ⟨-, c3b0, H⟩ | ⟨-, c3b0, H⟩
 ·obtain rfl := Option.some.inj H
  go_enter Tryd.func30, Tryd.ntmps30
  go_wp2
  go_ret
  exact ⟨eqFin, drawnNow⟩
 obtain rfl := Option.some.inj H
 go_enter Tryd.func30, Tryd.ntmps30
 go_wp2
 go_ret
 exact ⟨eqFin, drawnNow⟩
end Go.Proofs.YtecjoofjiockkaaDoor.Pp
