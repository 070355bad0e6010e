import Derived.Test.YtecjoofjiockkaaDoorESt
import Derived.Test.YtecjoofjiockkaaDoorPp0
namespace Go.Proofs.YtecjoofjiockkaaDoor.Pp
open Go.RowKit Go.Proofs.YtecjoofjiockkaaDoor.Ext Go.Proofs.YtecjoofjiockkaaDoorW.PrintWords Go.Proofs.YtecjoofjiockkaaDoorW.PrintLast Go.Proofs.YtecjoofjiockkaaDoorW.PrintMore
attribute [local go_sem] max2_int min2_int max_two min_two max_three min_three max_four min_four
def hunks_rows.l0 : Nat → List (S56) → Int → List ByteArray → Int → Int → Option ((List (S56)))
 | 0, _, _, _, _, _ => none
 | k + 1, x0, x1, x9, x10, x11 => if x11 < x10 then (if 0 ≤ x11 then (if x11 < (x9.length : Int) then (if x0.length < 5864062014805 then (hunks_rows.l0 k (x0 ++ [(⟨x1, rdOf ByteArray.empty x9 x11⟩ : S56)]) x1 x9 x10 (wrap64 (x11 + 1))) else (none)) else (none)) else (none)) else (some x0)
def hunks_rows.f (k : Nat) (l0 : List (S56)) (a1 : Int) (l2 : List ByteArray) : Option ((List (S56))) := hunks_rows.l0 k l0 a1 l2 (l2.length : Int) 0
theorem hunks_rows.mono_l : ∀ k, (∀ y0 y1 y2 y3 y4, LeO (hunks_rows.l0 k y0 y1 y2 y3 y4) (hunks_rows.l0 (k + 1) y0 y1 y2 y3 y4))
 | 0 => fun _ _ _ _ _ r h => by simp [hunks_rows.l0] at h
 | k + 1 => by
  have ih0 := hunks_rows.mono_l k
  ·intro y0 y1 y2 y3 y4
   unfold hunks_rows.l0
   repeat' first
   | (with_reducible exact ih0 _ _ _ _ _)
   | (with_reducible exact LeO.refl _)
   | (with_reducible exact LeO.none _)
   | (with_reducible refine LeO.ite ?_ ?_)
   | (with_reducible refine LeO.bind ?_ (fun _ => ?_))
   | exact ih0 _ _ _ _ _
   | exact LeO.none _
   | refine LeO.ite ?_ ?_
   | refine LeO.bind ?_ (fun _ => ?_)
theorem hunks_rows.mono : ∀ a0 a1 a2 k, LeO (hunks_rows.f k a0 a1 a2) (hunks_rows.f (k + 1) a0 a1 a2) := by
 intro a0 a1 a2 k
 have ih0 := hunks_rows.mono_l k
 unfold hunks_rows.f
 repeat' first
   | (with_reducible exact ih0 _ _ _ _ _)
   | (with_reducible exact LeO.refl _)
   | (with_reducible exact LeO.none _)
   | (with_reducible refine LeO.ite ?_ ?_)
   | (with_reducible refine LeO.bind ?_ (fun _ => ?_))
   | exact ih0 _ _ _ _ _
   | exact LeO.none _
   | refine LeO.ite ?_ ?_
   | refine LeO.bind ?_ (fun _ => ?_)
set_option maxHeartbeats 8000000 in
set_option maxRecDepth 100000 in
theorem hunks_rows.calls (k : Nat) (P0_ : Nat → Prop) (u9000_ : Value) (l0 : List (S56)) (a1 : Int) (A2 : Option Addr) (c2 : Nat) (l2 : List ByteArray) (r : List (S56)) (w0 w : World) (hB : Below w0.heap.size w0 w) (ho0 : Kd.R k56 56 w w0.heap.size P0_ u9000_ l0) (hr2 : ∀ W_, Kept w W_ (fun k_ => P0_ k_) → Kd.C Kd.string W_ A2 l2.length l2) (hc2 : l2.length ≤ c2) (h : hunks_rows.f k l0 a1 l2 = some r) :
  Calls Tryd.prog 40 #[u9000_, .int .i64 a1, .slice A2 l2.length c2] w fun e w' => ∃ v0_ : Value, e = .returned (v0_) ∧ Kd.R k56 56 w' w0.heap.size (fun k_ => (P0_ k_ ∨ w.heap.size ≤ k_)) v0_ r ∧ Below w0.heap.size w0 w' ∧ Kept w w' (fun k_ => P0_ k_) := by
 have hu53 := Tryd.underlying56
 have HO0 := Aside0.mk (show Kd.R k56 56 w w0.heap.size (fun k_ => (P0_ k_ ∨ w.heap.size ≤ k_)) u9000_ l0 from Kd.R_mono ho0 (fun k_ hk => (.inl hk)))
 have HR2 := Aside0.mk hr2
 have HC2 := Aside0.mk hc2
 clear hr2 hc2
 have HK := Aside0.mk (Kept.refl w (fun k_ => P0_ k_))
 have HW0 := Aside0.mk hB.size
 have HB := Aside0.mk hB
 clear hB
 have H := h
 clear h
 unfold hunks_rows.f at H
 have H' := Aside0.mk H
 clear H
 go_enter Tryd.func40, Tryd.ntmps40
 go_wp2
 go_loopg [0, 11] k (fun kq v0 v11 w' => ∃ (x0_1 : List (S56)) (x11_1 : Int), v11 = .int .i64 x11_1 ∧ Aside0 (hunks_rows.l0 kq x0_1 a1 l2 (l2.length : Int) x11_1 = some r) ∧ Aside0 (kq ≤ k) ∧ Aside0 (Kd.R k56 56 w' w0.heap.size (fun k_ => (P0_ k_ ∨ w.heap.size ≤ k_)) v0 x0_1) ∧ Aside0 (Kept w w' (fun k_ => P0_ k_)) ∧ Aside0 (Below w0.heap.size w0 w'))
 case atStart => exact ⟨(l0), (0), eqNow, H', ⟨Nat.le_refl _⟩, ⟨kdMv HO0⟩, ⟨by repeat (first | (with_reducible first | exact HK.out | apply Kept.alloc | apply Kept.drewN | apply Kept.drew) | exact HK.out)⟩, ⟨belNow⟩⟩
 case round =>
  clear H'
  try clear c2
  obtain ⟨x0_1, x11_1, rfl, HA, HK1, HO_0, HK, HB⟩ := hrel
  cases gk with
  | zero => exact absurd HA.out (by simp [hunks_rows.l0])
  | succ k1 =>
   have H := HA.out
   clear HA
   simp only [hunks_rows.l0] at H
   replace H := itLn H
   rcases H with ⟨-, c4b0, H⟩ | ⟨-, c4b0, H⟩
   ·obtain rfl := Option.some.inj H
    go_wp2
    go_ret
    exact ⟨_, eqEnd, by (with_reducible repeat (first | apply Kd.R_alloc | apply Kd.R_drewN | apply Kd.R_drew)); exact HO_0.out, belNow, by repeat (first | (with_reducible first | exact HK.out | apply Kept.alloc | apply Kept.drewN | apply Kept.drew) | exact HK.out)⟩
   replace H := itLn H
   rcases H with ⟨_, _, H⟩ | ⟨-, c5b0, H⟩
   ·cases H
   replace H := itLn H
   rcases H with ⟨_, _, H⟩ | ⟨-, c6b0, H⟩
   ·cases H
   replace H := itLn H
   rcases H with ⟨_, _, H⟩ | ⟨c7, -, H⟩
   ·cases H
   have LMc7 := Aside0.mk c7
   clear c7
   obtain ⟨y254, hy254⟩ : ∃ y_ : List (S56), y_ = (x0_1 ++ [(⟨a1, rdOf ByteArray.empty l2 x11_1⟩ : S56)]) := ⟨_, rfl⟩
   replace H : (hunks_rows.l0 k1 y254 a1 l2 (l2.length : Int) (wrap64 (x11_1 + 1))) = some r := by first | (rw [hy254]; with_reducible exact H) | (have H2_ := (Option.bind_some _ _).symm.trans H; rw [hy254]; with_reducible exact H2_) | (have H2_ := (Option.bind_some _ _).symm.trans H; with_reducible exact H2_) | with_reducible exact H | (rw [hy254]; exact H) | exact H
   have Ny254 := Aside0.mk hy254
   clear hy254
   have H' := Aside0.mk H
   clear H
   have p253 : 0 ≤ (x11_1 : Int) := ofDec
   have q253 : x11_1 < (l2.length : Int) := ofDec
   obtain ⟨ad253, e253, hx253_0⟩ := Kd.at_string (Kd.C_kept_now HR2.out HK.out) x11_1 p253 q253
   cases e253
   replace p253 := eq_true p253
   replace q253 := eq_true q253
   go_wp2_with (first | ((with_reducible refine gate_builtin (b := .append) (xs := #[.tmp 15, .tmp 19]) rfl ?_); at_builtin; refine Kd.R_append k56 (w0 := w0) w0.heap.size rfl (.tmp 15) (.tmp 19) 39 56 (.agg #[(.int .i64 0), (.string ⟨#[]⟩)]) 24 rfl Tryd.underlying39 info56 rfl (by decide) (by omega) u0 x0_1 (⟨a1, rdOf ByteArray.empty l2 x11_1⟩ : S56) [.int .i64 a1, .string (rdOf ByteArray.empty l2 x11_1)] (fun k_ => (P0_ k_ ∨ w.heap.size ≤ k_)) (fun _ => False) rfl rfl ?aP (fun _ hk => hk.elim) ?aF ?aO ?aB ?aS ?aL ?_; (case aP => exact k56_mkM _ _ _ (⟨a1, rdOf ByteArray.empty l2 x11_1⟩ : S56)); (case aB => exact belNow); (case aF => exact (fun k_ hk => (.inr (Nat.le_trans (by first | exact HK.out.1 | exact (show Kept w _ (fun k_ => P0_ k_) from by repeat (first | (with_reducible first | exact HK.out | apply Kept.alloc | apply Kept.drewN | apply Kept.drew) | exact HK.out)).1) hk)))); (case aO => exact (kdUp HO_0.out)); (case aS => exact (below_size belNow)); (case aL => have := LMc7.out; omega); intro v255 w8 ho hb hg hat; rw [← Ny254.out] at ho; replace HB := Aside0.mk hb; replace HK := Aside0.mk (Kept.of_grown (S := (fun k_ => P0_ k_)) hg (by repeat (first | (with_reducible first | exact HK.out | apply Kept.alloc | apply Kept.drewN | apply Kept.drew) | exact HK.out)) (fun k_ e_ => (HO_0.out.1 k_ e_))); have HO256 := Aside0.mk (ho); clear HO_0; clear ho hb hg hat))
   go_roundg k1
   case measure => have := HK1.out; omega
   case rel => exact ⟨(y254), (wrap64 (x11_1 + 1)), eqNow, H', ⟨by have := HK1.out; omega⟩, ⟨kdMv HO256⟩, ⟨by repeat (first | (with_reducible first | exact HK.out | apply Kept.alloc | apply Kept.drewN | apply Kept.drew) | exact HK.out)⟩, ⟨belNow⟩⟩
end Go.Proofs.YtecjoofjiockkaaDoor.Pp
