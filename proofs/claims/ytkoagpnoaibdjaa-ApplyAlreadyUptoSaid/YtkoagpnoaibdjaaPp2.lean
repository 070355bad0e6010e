import Derived.Test.YtkoagpnoaibdjaaESt
import Derived.Test.YtkoagpnoaibdjaaPp0
import Derived.Test.YtkoagpnoaibdjaaPp1
namespace Go.Proofs.Ytkoagpnoaibdjaa.Pp
open Go.RowKit Go.Proofs.Ytkoagpnoaibdjaa.Ext Go.Proofs.YtkoagpnoaibdjaaW.PrintWords Go.Proofs.YtkoagpnoaibdjaaW.PrintLast Go.Proofs.YtkoagpnoaibdjaaW.PrintMore
attribute [local go_sem] max2_int min2_int max_two min_two max_three min_three max_four min_four   -- for this text's walks alone
set_option linter.unusedVariables false
set_option linter.unusedSimpArgs false
mutual
def selvageref06_Of.j0 : Nat → List (S55) → Int → Int → Bool → Option ((List (S57)) × Int)
 | 0, _, _, _, _ => none
 | k + 1, x0, x1, x2, x27 => if x27 = true then (some (([] : List (S57)), 1)) else (selvageref06_Of.l0 k x0 x1 x2 ([] : List (S57)) 0 0 0)
def selvageref06_Of.l0 : Nat → List (S55) → Int → Int → List (S57) → Int → Int → Int → Option ((List (S57)) × Int)
 | 0, _, _, _, _, _, _, _ => none
 | k + 1, x0, x1, x2, x8, x9, x10, x11 => if x11 ≤ (x0.length : Int) then (if x11 < (x0.length : Int) then (if 0 ≤ x11 then (if ((rd_T55 x0 x11).f0) < x9 then (selvageref06_Of.j2 k x0 x1 x2 x8 x9 x10 x11 ((rd_T55 x0 x11).f0) ((rd_T55 x0 x11).f1) true) else (if ((rd_T55 x0 x11).f1) < x10 then (selvageref06_Of.j2 k x0 x1 x2 x8 x9 x10 x11 ((rd_T55 x0 x11).f0) ((rd_T55 x0 x11).f1) true) else (if ((rd_T55 x0 x11).f0) ≥ x1 then (selvageref06_Of.j2 k x0 x1 x2 x8 x9 x10 x11 ((rd_T55 x0 x11).f0) ((rd_T55 x0 x11).f1) true) else (selvageref06_Of.j2 k x0 x1 x2 x8 x9 x10 x11 ((rd_T55 x0 x11).f0) ((rd_T55 x0 x11).f1) (decide (((rd_T55 x0 x11).f1) ≥ x2)))))) else (none)) else (if x1 > x9 then (if x8.length < 4398046511104 then (selvageref06_Of.l0 k x0 x1 x2 (x8 ++ [(⟨x9, wrap64 (x1 - x9), x10, wrap64 (x2 - x10)⟩ : S57)]) (wrap64 (x1 + 1)) (wrap64 (x2 + 1)) (wrap64 (x11 + 1))) else (none)) else (if x2 > x10 then (if x8.length < 4398046511104 then (selvageref06_Of.l0 k x0 x1 x2 (x8 ++ [(⟨x9, wrap64 (x1 - x9), x10, wrap64 (x2 - x10)⟩ : S57)]) (wrap64 (x1 + 1)) (wrap64 (x2 + 1)) (wrap64 (x11 + 1))) else (none)) else (selvageref06_Of.l0 k x0 x1 x2 x8 (wrap64 (x1 + 1)) (wrap64 (x2 + 1)) (wrap64 (x11 + 1)))))) else (some (x8, 0))
def selvageref06_Of.j2 : Nat → List (S55) → Int → Int → List (S57) → Int → Int → Int → Int → Int → Bool → Option ((List (S57)) × Int)
 | 0, _, _, _, _, _, _, _, _, _, _ => none
 | k + 1, x0, x1, x2, x8, x9, x10, x11, x12, x13, x67 => if x67 = true then (some (([] : List (S57)), 60)) else (if x12 > x9 then (if x8.length < 4398046511104 then (selvageref06_Of.l0 k x0 x1 x2 (x8 ++ [(⟨x9, wrap64 (x12 - x9), x10, wrap64 (x13 - x10)⟩ : S57)]) (wrap64 (x12 + 1)) (wrap64 (x13 + 1)) (wrap64 (x11 + 1))) else (none)) else (if x13 > x10 then (if x8.length < 4398046511104 then (selvageref06_Of.l0 k x0 x1 x2 (x8 ++ [(⟨x9, wrap64 (x12 - x9), x10, wrap64 (x13 - x10)⟩ : S57)]) (wrap64 (x12 + 1)) (wrap64 (x13 + 1)) (wrap64 (x11 + 1))) else (none)) else (selvageref06_Of.l0 k x0 x1 x2 x8 (wrap64 (x12 + 1)) (wrap64 (x13 + 1)) (wrap64 (x11 + 1)))))
end
def selvageref06_Of.f (k : Nat) (l0 : List (S55)) (a1 : Int) (a2 : Int) : Option ((List (S57)) × Int) := if a1 < 0 then (selvageref06_Of.j0 k l0 a1 a2 true) else (if a1 > 4194304 then (selvageref06_Of.j0 k l0 a1 a2 true) else (if a2 < 0 then (selvageref06_Of.j0 k l0 a1 a2 true) else (selvageref06_Of.j0 k l0 a1 a2 (decide (a2 > 4194304)))))
set_option maxHeartbeats 80000000 in
set_option maxRecDepth 100000 in
theorem selvageref06_Of.calls (k : Nat) (A0 : Option Addr) (c0 : Nat) (l0 : List (S55)) (a1 : Int) (a2 : Int) (r1 : List (S57)) (r2 : Int) (w : World) (hr0 : Kd.C k55 w A0 l0.length l0) (hc0 : l0.length ≤ c0) (h : selvageref06_Of.f k l0 a1 a2 = some (r1, r2)) :
  Calls Try.prog 36 #[.slice A0 l0.length c0, .int .i64 a1, .int .i64 a2] w fun e w' => ∃ v0_ : Value, e = .returned (.tuple #[v0_, .int .i64 r2]) ∧ Kd.R k57 57 w' w.heap.size (fun _ => True) v0_ r1 ∧ Below w.heap.size w w' := by
 have hu57 := Try.underlying57
 have HR0 := Aside0.mk hr0
 have HC0 := Aside0.mk hc0
 clear hr0 hc0
 have HB := Aside0.mk (Below.refl w.heap.size w)
 have H := h
 clear h
 unfold selvageref06_Of.f at H
 have HC4 := Aside0.mk H
 clear H
 go_enter Try.func36, Try.ntmps36
 try simp only [List.append_eq, List.cons_append, List.nil_append]
 go_upto_region 1 with (fail)
 repeat (go_quiet (fail); go_upto_region 1 with (fail))
 go_cut [27] (fun v27 wc => ∃ (kq : Nat) (x27_3 : Bool), v27 = .bool x27_3 ∧ Aside0 (selvageref06_Of.j0 kq l0 a1 a2 x27_3 = some (r1, r2)) ∧ Aside0 (kq ≤ k) ∧ Aside0 (Below w.heap.size w wc))
 case first =>
  have H := HC4.out
  clear HC4
  replace H := itL H
  rcases H with ⟨-, c5b0, H⟩ | ⟨-, c5b0, H⟩
  ·(first | rw [c5b0] | (simp only [i64_w, i32_w]; rw [c5b0]) | skip)
   have H' := Aside0.mk H
   clear H
   go_wp2
   repeat (go_quiet (fail); try go_wp2)
   go_meet
   case rel => exact ⟨_, (true), eqNow, H', ⟨by first | omega | exact Nat.le_refl _⟩, ⟨belNow⟩⟩
  (first | rw [c5b0] | (simp only [i64_w, i32_w]; rw [c5b0]) | skip)
  replace H := itG H
  rcases H with ⟨-, c6b0, H⟩ | ⟨-, c6b0, H⟩
  ·have H' := Aside0.mk H
   clear H
   go_wp2
   repeat (go_quiet (fail); try go_wp2)
   go_meet
   case rel => exact ⟨_, (true), eqNow, H', ⟨by first | omega | exact Nat.le_refl _⟩, ⟨belNow⟩⟩
  replace H := itL H
  rcases H with ⟨-, c7b0, H⟩ | ⟨-, c7b0, H⟩
  ·have H' := Aside0.mk H
   clear H
   go_wp2
   repeat (go_quiet (fail); try go_wp2)
   go_meet
   case rel => exact ⟨_, (true), eqNow, H', ⟨by first | omega | exact Nat.le_refl _⟩, ⟨belNow⟩⟩
  have H' := Aside0.mk H
  clear H
  go_wp2
  repeat (go_quiet (fail); try go_wp2)
  go_meet
  case rel => exact ⟨_, (decide (a2 > 4194304)), eqNow, H', ⟨by first | omega | exact Nat.le_refl _⟩, ⟨belNow⟩⟩
 case rest =>
  clear HC4
  obtain ⟨kq, x27_3, rfl, HA, HJ3, HB⟩ := hcut
  cases kq with
  | zero => exact absurd HA.out (by simp [selvageref06_Of.j0])
  | succ kj3 =>
   have H := HA.out
   clear HA
   simp only [selvageref06_Of.j0] at H
   replace H := itB H
   rcases H with ⟨rfl, H⟩ | ⟨rfl, H⟩
   ·simp only [Option.some.injEq, Prod.mk.injEq] at H
    obtain ⟨rfl, rfl⟩ := H
    go_wp2
    repeat (go_quiet (fail); try go_wp2)
    go_ret2
    exact ⟨_, eqEnd, by first | exact Kd.R_nil _ _ _ _ _ | exact Kd.N_nil _ _ _ _ _ | exact Kd.V_nil _ _ _ _ _ | exact Kd.Q_nil _ _ _ _ _ | exact Kd.S_nil _ _ _ _ _, belNow⟩
   have H' := Aside0.mk H
   clear H
   go_wp2
   repeat (go_quiet (fail); try go_wp2)
   go_loopg [8, 9, 10, 11] kj3 (fun kq v8 v9 v10 v11 w' => ∃ (x8_2 : List (S57)) (x9_2 : Int) (x10_2 : Int) (x11_2 : Int), v9 = .int .i64 x9_2 ∧ v10 = .int .i64 x10_2 ∧ v11 = .int .i64 x11_2 ∧ Aside0 (selvageref06_Of.l0 kq l0 a1 a2 x8_2 x9_2 x10_2 x11_2 = some (r1, r2)) ∧ Aside0 (kq ≤ kj3) ∧ Aside0 (Kd.R k57 57 w' w.heap.size (fun _ => True) v8 x8_2) ∧ Aside0 (Below w.heap.size w w'))
   case atStart => exact ⟨(([] : List (S57))), (0), (0), (0), eqNow, eqNow, eqNow, H', ⟨Nat.le_refl _⟩, ⟨by first | exact Kd.R_nil _ _ _ _ _ | exact Kd.N_nil _ _ _ _ _ | exact Kd.V_nil _ _ _ _ _ | exact Kd.Q_nil _ _ _ _ _ | exact Kd.S_nil _ _ _ _ _⟩, ⟨belNow⟩⟩
   case round =>
    clear H'
    try clear c8
    obtain ⟨x8_2, x9_2, x10_2, x11_2, rfl, rfl, rfl, HA, HK2, HO_8, HB⟩ := hrel
    cases gk with
    | zero => exact absurd HA.out (by simp [selvageref06_Of.l0])
    | succ k2 =>
     have H := HA.out
     clear HA
     simp only [selvageref06_Of.l0] at H
     replace H := itLn H
     rcases H with ⟨-, c9b0, H⟩ | ⟨-, c9b0, H⟩
     ·simp only [Option.some.injEq, Prod.mk.injEq] at H
      obtain ⟨rfl, rfl⟩ := H
      go_wp2
      repeat (go_quiet (fail); try go_wp2)
      go_ret2
      exact ⟨_, eqEnd, by (with_reducible repeat (first | apply Kd.R_alloc | apply Kd.R_drewN | apply Kd.R_drew)); exact HO_8.out, belNow⟩
     replace H := itLn H
     rcases H with ⟨-, c10b0, H⟩ | ⟨-, c10b0, H⟩
     ·replace H := itG H
      rcases H with ⟨-, c23b0, H⟩ | ⟨-, c23b0, H⟩
      ·replace H := itLn H
       rcases H with ⟨_, _, H⟩ | ⟨c24, -, H⟩
       ·cases H
       have LMc24 := Aside0.mk c24
       clear c24
       obtain ⟨y114, hy114⟩ : ∃ y_ : List (S57), y_ = (x8_2 ++ [(⟨x9_2, wrap64 (a1 - x9_2), x10_2, wrap64 (a2 - x10_2)⟩ : S57)]) := ⟨_, rfl⟩
       replace H : (selvageref06_Of.l0 k2 l0 a1 a2 y114 (wrap64 (a1 + 1)) (wrap64 (a2 + 1)) (wrap64 (x11_2 + 1))) = some (r1, r2) := by first | (rw [hy114]; with_reducible exact H) | (have H2_ := (Option.bind_some _ _).symm.trans H; rw [hy114]; with_reducible exact H2_) | (have H2_ := (Option.bind_some _ _).symm.trans H; with_reducible exact H2_) | with_reducible exact H | (rw [hy114]; exact H) | exact H
       have Ny114 := Aside0.mk hy114
       clear hy114
       have H' := Aside0.mk H
       clear H
       go_wp2_with (first | ((with_reducible refine gate_builtin (b := .append) (xs := #[.tmp 76, .tmp 86]) rfl ?_); at_builtin; refine Kd.R_append k57 (w0 := w) w.heap.size rfl (.tmp 76) (.tmp 86) 22 57 (.agg #[(.int .i64 0), (.int .i64 0), (.int .i64 0), (.int .i64 0)]) 32 rfl Try.underlying22 info57 rfl (by decide) (by omega) u8 x8_2 (⟨x9_2, wrap64 (a1 - x9_2), x10_2, wrap64 (a2 - x10_2)⟩ : S57) [.int .i64 x9_2, .int .i64 (wrap64 (a1 - x9_2)), .int .i64 x10_2, .int .i64 (wrap64 (a2 - x10_2))] (fun _ => True) (fun _ => False) rfl rfl ?aP (fun _ hk => hk.elim) ?aF ?aO ?aB ?aS ?aL ?_; (case aP => exact k57_mkM _ _ _ (⟨x9_2, wrap64 (a1 - x9_2), x10_2, wrap64 (a2 - x10_2)⟩ : S57)); (case aB => exact belNow); (case aF => exact (fun _ _ => trivial)); (case aO => exact (kdUp HO_8.out)); (case aS => exact (below_size belNow)); (case aL => have := LMc24.out; omega); intro v115 w25 ho hb hg hat; rw [← Ny114.out] at ho; replace HB := Aside0.mk hb; have HO116 := Aside0.mk (ho); clear HO_8; clear ho hb hg hat))
       repeat (go_quiet (first | ((with_reducible refine gate_builtin (b := .append) (xs := #[.tmp 76, .tmp 86]) rfl ?_); at_builtin; refine Kd.R_append k57 (w0 := w) w.heap.size rfl (.tmp 76) (.tmp 86) 22 57 (.agg #[(.int .i64 0), (.int .i64 0), (.int .i64 0), (.int .i64 0)]) 32 rfl Try.underlying22 info57 rfl (by decide) (by omega) u8 x8_2 (⟨x9_2, wrap64 (a1 - x9_2), x10_2, wrap64 (a2 - x10_2)⟩ : S57) [.int .i64 x9_2, .int .i64 (wrap64 (a1 - x9_2)), .int .i64 x10_2, .int .i64 (wrap64 (a2 - x10_2))] (fun _ => True) (fun _ => False) rfl rfl ?aP (fun _ hk => hk.elim) ?aF ?aO ?aB ?aS ?aL ?_; (case aP => exact k57_mkM _ _ _ (⟨x9_2, wrap64 (a1 - x9_2), x10_2, wrap64 (a2 - x10_2)⟩ : S57)); (case aB => exact belNow); (case aF => exact (fun _ _ => trivial)); (case aO => exact (kdUp HO_8.out)); (case aS => exact (below_size belNow)); (case aL => have := LMc24.out; omega); intro v115 w25 ho hb hg hat; rw [← Ny114.out] at ho; replace HB := Aside0.mk hb; have HO116 := Aside0.mk (ho); clear HO_8; clear ho hb hg hat)); try go_wp2_with (first | ((with_reducible refine gate_builtin (b := .append) (xs := #[.tmp 76, .tmp 86]) rfl ?_); at_builtin; refine Kd.R_append k57 (w0 := w) w.heap.size rfl (.tmp 76) (.tmp 86) 22 57 (.agg #[(.int .i64 0), (.int .i64 0), (.int .i64 0), (.int .i64 0)]) 32 rfl Try.underlying22 info57 rfl (by decide) (by omega) u8 x8_2 (⟨x9_2, wrap64 (a1 - x9_2), x10_2, wrap64 (a2 - x10_2)⟩ : S57) [.int .i64 x9_2, .int .i64 (wrap64 (a1 - x9_2)), .int .i64 x10_2, .int .i64 (wrap64 (a2 - x10_2))] (fun _ => True) (fun _ => False) rfl rfl ?aP (fun _ hk => hk.elim) ?aF ?aO ?aB ?aS ?aL ?_; (case aP => exact k57_mkM _ _ _ (⟨x9_2, wrap64 (a1 - x9_2), x10_2, wrap64 (a2 - x10_2)⟩ : S57)); (case aB => exact belNow); (case aF => exact (fun _ _ => trivial)); (case aO => exact (kdUp HO_8.out)); (case aS => exact (below_size belNow)); (case aL => have := LMc24.out; omega); intro v115 w25 ho hb hg hat; rw [← Ny114.out] at ho; replace HB := Aside0.mk hb; have HO116 := Aside0.mk (ho); clear HO_8; clear ho hb hg hat)))
       go_roundg k2
       case measure => have := HJ3.out; have := HK2.out; omega
       case rel => exact ⟨(y114), (wrap64 (a1 + 1)), (wrap64 (a2 + 1)), (wrap64 (x11_2 + 1)), eqNow, eqNow, eqNow, H', ⟨by have := HJ3.out; have := HK2.out; omega⟩, ⟨kdMv HO116⟩, ⟨belNow⟩⟩
      replace H := itGn H
      rcases H with ⟨-, c26b0, H⟩ | ⟨-, c26b0, H⟩
      ·have H' := Aside0.mk H
       clear H
       go_wp2
       repeat (go_quiet (fail); try go_wp2)
       go_roundg k2
       case measure => have := HJ3.out; have := HK2.out; omega
       case rel => exact ⟨(x8_2), (wrap64 (a1 + 1)), (wrap64 (a2 + 1)), (wrap64 (x11_2 + 1)), eqNow, eqNow, eqNow, H', ⟨by have := HJ3.out; have := HK2.out; omega⟩, ⟨kdMv HO_8⟩, ⟨belNow⟩⟩
      replace H := itLn H
      rcases H with ⟨_, _, H⟩ | ⟨c27, -, H⟩
      ·cases H
      have LMc27 := Aside0.mk c27
      clear c27
      obtain ⟨y117, hy117⟩ : ∃ y_ : List (S57), y_ = (x8_2 ++ [(⟨x9_2, wrap64 (a1 - x9_2), x10_2, wrap64 (a2 - x10_2)⟩ : S57)]) := ⟨_, rfl⟩
      replace H : (selvageref06_Of.l0 k2 l0 a1 a2 y117 (wrap64 (a1 + 1)) (wrap64 (a2 + 1)) (wrap64 (x11_2 + 1))) = some (r1, r2) := by first | (rw [hy117]; with_reducible exact H) | (have H2_ := (Option.bind_some _ _).symm.trans H; rw [hy117]; with_reducible exact H2_) | (have H2_ := (Option.bind_some _ _).symm.trans H; with_reducible exact H2_) | with_reducible exact H | (rw [hy117]; exact H) | exact H
      have Ny117 := Aside0.mk hy117
      clear hy117
      have H' := Aside0.mk H
      clear H
      go_wp2_with (first | ((with_reducible refine gate_builtin (b := .append) (xs := #[.tmp 76, .tmp 86]) rfl ?_); at_builtin; refine Kd.R_append k57 (w0 := w) w.heap.size rfl (.tmp 76) (.tmp 86) 22 57 (.agg #[(.int .i64 0), (.int .i64 0), (.int .i64 0), (.int .i64 0)]) 32 rfl Try.underlying22 info57 rfl (by decide) (by omega) u8 x8_2 (⟨x9_2, wrap64 (a1 - x9_2), x10_2, wrap64 (a2 - x10_2)⟩ : S57) [.int .i64 x9_2, .int .i64 (wrap64 (a1 - x9_2)), .int .i64 x10_2, .int .i64 (wrap64 (a2 - x10_2))] (fun _ => True) (fun _ => False) rfl rfl ?aP (fun _ hk => hk.elim) ?aF ?aO ?aB ?aS ?aL ?_; (case aP => exact k57_mkM _ _ _ (⟨x9_2, wrap64 (a1 - x9_2), x10_2, wrap64 (a2 - x10_2)⟩ : S57)); (case aB => exact belNow); (case aF => exact (fun _ _ => trivial)); (case aO => exact (kdUp HO_8.out)); (case aS => exact (below_size belNow)); (case aL => have := LMc27.out; omega); intro v118 w28 ho hb hg hat; rw [← Ny117.out] at ho; replace HB := Aside0.mk hb; have HO119 := Aside0.mk (ho); clear HO_8; clear ho hb hg hat))
      repeat (go_quiet (first | ((with_reducible refine gate_builtin (b := .append) (xs := #[.tmp 76, .tmp 86]) rfl ?_); at_builtin; refine Kd.R_append k57 (w0 := w) w.heap.size rfl (.tmp 76) (.tmp 86) 22 57 (.agg #[(.int .i64 0), (.int .i64 0), (.int .i64 0), (.int .i64 0)]) 32 rfl Try.underlying22 info57 rfl (by decide) (by omega) u8 x8_2 (⟨x9_2, wrap64 (a1 - x9_2), x10_2, wrap64 (a2 - x10_2)⟩ : S57) [.int .i64 x9_2, .int .i64 (wrap64 (a1 - x9_2)), .int .i64 x10_2, .int .i64 (wrap64 (a2 - x10_2))] (fun _ => True) (fun _ => False) rfl rfl ?aP (fun _ hk => hk.elim) ?aF ?aO ?aB ?aS ?aL ?_; (case aP => exact k57_mkM _ _ _ (⟨x9_2, wrap64 (a1 - x9_2), x10_2, wrap64 (a2 - x10_2)⟩ : S57)); (case aB => exact belNow); (case aF => exact (fun _ _ => trivial)); (case aO => exact (kdUp HO_8.out)); (case aS => exact (below_size belNow)); (case aL => have := LMc27.out; omega); intro v118 w28 ho hb hg hat; rw [← Ny117.out] at ho; replace HB := Aside0.mk hb; have HO119 := Aside0.mk (ho); clear HO_8; clear ho hb hg hat)); try go_wp2_with (first | ((with_reducible refine gate_builtin (b := .append) (xs := #[.tmp 76, .tmp 86]) rfl ?_); at_builtin; refine Kd.R_append k57 (w0 := w) w.heap.size rfl (.tmp 76) (.tmp 86) 22 57 (.agg #[(.int .i64 0), (.int .i64 0), (.int .i64 0), (.int .i64 0)]) 32 rfl Try.underlying22 info57 rfl (by decide) (by omega) u8 x8_2 (⟨x9_2, wrap64 (a1 - x9_2), x10_2, wrap64 (a2 - x10_2)⟩ : S57) [.int .i64 x9_2, .int .i64 (wrap64 (a1 - x9_2)), .int .i64 x10_2, .int .i64 (wrap64 (a2 - x10_2))] (fun _ => True) (fun _ => False) rfl rfl ?aP (fun _ hk => hk.elim) ?aF ?aO ?aB ?aS ?aL ?_; (case aP => exact k57_mkM _ _ _ (⟨x9_2, wrap64 (a1 - x9_2), x10_2, wrap64 (a2 - x10_2)⟩ : S57)); (case aB => exact belNow); (case aF => exact (fun _ _ => trivial)); (case aO => exact (kdUp HO_8.out)); (case aS => exact (below_size belNow)); (case aL => have := LMc27.out; omega); intro v118 w28 ho hb hg hat; rw [← Ny117.out] at ho; replace HB := Aside0.mk hb; have HO119 := Aside0.mk (ho); clear HO_8; clear ho hb hg hat)))
      go_roundg k2
      case measure => have := HJ3.out; have := HK2.out; omega
      case rel => exact ⟨(y117), (wrap64 (a1 + 1)), (wrap64 (a2 + 1)), (wrap64 (x11_2 + 1)), eqNow, eqNow, eqNow, H', ⟨by have := HJ3.out; have := HK2.out; omega⟩, ⟨kdMv HO119⟩, ⟨belNow⟩⟩
     replace H := itLn H
     rcases H with ⟨_, _, H⟩ | ⟨-, c11b0, H⟩
     ·cases H
     have HC12 := Aside0.mk H
     clear H
     obtain ⟨ad106, rfl, hx106_0, hx106_1, p106, q106⟩ := atU_T55 HR0 HB x11_2
     have p107 : 0 ≤ (x11_2 : Int) := ofDec
     have q107 : x11_2 < (l0.length : Int) := ofDec
     obtain ⟨ad107, e107, hx107_0, hx107_1⟩ := at_T55 HR0.out x11_2 p107 q107
     obtain rfl : ad106 = ad107 := (by injection e107)
     replace hx107_0 := cUp HB.out hx107_0
     replace hx107_1 := cUp HB.out hx107_1
     replace p107 := eq_true p107
     replace q107 := eq_true q107
     go_upto_region 11 with (fail)
     repeat (go_quiet (fail); go_upto_region 11 with (fail))
     go_cut [67] (fun v67 wc => ∃ (kq : Nat) (x67_11 : Bool), v67 = .bool x67_11 ∧ Aside0 (selvageref06_Of.j2 kq l0 a1 a2 x8_2 x9_2 x10_2 x11_2 ((rd_T55 l0 x11_2).f0) ((rd_T55 l0 x11_2).f1) x67_11 = some (r1, r2)) ∧ Aside0 (kq ≤ k2) ∧ Aside0 (Kd.R k57 57 wc w.heap.size (fun _ => True) u8 x8_2) ∧ Aside0 (Below w.heap.size w wc))
     case first =>
      have H := HC12.out
      clear HC12
      replace H := itL H
      rcases H with ⟨-, c13b0, H⟩ | ⟨-, c13b0, H⟩
      ·(first | rw [c13b0] | (simp only [i64_w, i32_w]; rw [c13b0]) | skip)
       have H' := Aside0.mk H
       clear H
       go_wp2
       repeat (go_quiet (fail); try go_wp2)
       go_meet
       case rel => exact ⟨_, (true), eqNow, H', ⟨by have := HJ3.out; have := HK2.out; first | omega | exact Nat.le_refl _⟩, ⟨kdMv HO_8⟩, ⟨belNow⟩⟩
      (first | rw [c13b0] | (simp only [i64_w, i32_w]; rw [c13b0]) | skip)
      replace H := itL H
      rcases H with ⟨-, c14b0, H⟩ | ⟨-, c14b0, H⟩
      ·have H' := Aside0.mk H
       clear H
       go_wp2
       repeat (go_quiet (fail); try go_wp2)
       go_meet
       case rel => exact ⟨_, (true), eqNow, H', ⟨by have := HJ3.out; have := HK2.out; first | omega | exact Nat.le_refl _⟩, ⟨kdMv HO_8⟩, ⟨belNow⟩⟩
      replace H := itH H
      rcases H with ⟨-, c15b0, H⟩ | ⟨-, c15b0, H⟩
      ·have H' := Aside0.mk H
       clear H
       go_wp2
       repeat (go_quiet (fail); try go_wp2)
       go_meet
       case rel => exact ⟨_, (true), eqNow, H', ⟨by have := HJ3.out; have := HK2.out; first | omega | exact Nat.le_refl _⟩, ⟨kdMv HO_8⟩, ⟨belNow⟩⟩
      have H' := Aside0.mk H
      clear H
      go_wp2
      repeat (go_quiet (fail); try go_wp2)
      go_meet
      case rel => exact ⟨_, (decide (((rd_T55 l0 x11_2).f1) ≥ a2)), eqNow, H', ⟨by have := HJ3.out; have := HK2.out; first | omega | exact Nat.le_refl _⟩, ⟨kdMv HO_8⟩, ⟨belNow⟩⟩
     case rest =>
      clear HC12
      try clear c8
      try clear c9
      try clear c9b0
      try clear c10
      try clear c10b0
      try clear c11
      try clear c11b0
      try clear hx106_0
      try clear hx106_1
      try clear hx107_0
      try clear hx107_1
      try clear p106
      try clear p107
      try clear q106
      try clear q107
      obtain ⟨kq, x67_11, rfl, HA, HJ11, HO_8, HB⟩ := hcut
      cases kq with
      | zero => exact absurd HA.out (by simp [selvageref06_Of.j2])
      | succ kj11 =>
       have H := HA.out
       clear HA
       simp only [selvageref06_Of.j2] at H
       replace H := itB H
       rcases H with ⟨rfl, H⟩ | ⟨rfl, H⟩
       ·simp only [Option.some.injEq, Prod.mk.injEq] at H
        obtain ⟨rfl, rfl⟩ := H
        go_wp2
        repeat (go_quiet (fail); try go_wp2)
        go_ret2
        exact ⟨_, eqEnd, by first | exact Kd.R_nil _ _ _ _ _ | exact Kd.N_nil _ _ _ _ _ | exact Kd.V_nil _ _ _ _ _ | exact Kd.Q_nil _ _ _ _ _ | exact Kd.S_nil _ _ _ _ _, belNow⟩
       replace H := itG H
       rcases H with ⟨-, c17b0, H⟩ | ⟨-, c17b0, H⟩
       ·replace H := itLn H
        rcases H with ⟨_, _, H⟩ | ⟨c18, -, H⟩
        ·cases H
        have LMc18 := Aside0.mk c18
        clear c18
        obtain ⟨y108, hy108⟩ : ∃ y_ : List (S57), y_ = (x8_2 ++ [(⟨x9_2, wrap64 (((rd_T55 l0 x11_2).f0) - x9_2), x10_2, wrap64 (((rd_T55 l0 x11_2).f1) - x10_2)⟩ : S57)]) := ⟨_, rfl⟩
        replace H : (selvageref06_Of.l0 kj11 l0 a1 a2 y108 (wrap64 (((rd_T55 l0 x11_2).f0) + 1)) (wrap64 (((rd_T55 l0 x11_2).f1) + 1)) (wrap64 (x11_2 + 1))) = some (r1, r2) := by first | (rw [hy108]; with_reducible exact H) | (have H2_ := (Option.bind_some _ _).symm.trans H; rw [hy108]; with_reducible exact H2_) | (have H2_ := (Option.bind_some _ _).symm.trans H; with_reducible exact H2_) | with_reducible exact H | (rw [hy108]; exact H) | exact H
        have Ny108 := Aside0.mk hy108
        clear hy108
        have H' := Aside0.mk H
        clear H
        go_wp2_with (first | ((with_reducible refine gate_builtin (b := .append) (xs := #[.tmp 76, .tmp 86]) rfl ?_); at_builtin; refine Kd.R_append k57 (w0 := w) w.heap.size rfl (.tmp 76) (.tmp 86) 22 57 (.agg #[(.int .i64 0), (.int .i64 0), (.int .i64 0), (.int .i64 0)]) 32 rfl Try.underlying22 info57 rfl (by decide) (by omega) u8 x8_2 (⟨x9_2, wrap64 (((rd_T55 l0 x11_2).f0) - x9_2), x10_2, wrap64 (((rd_T55 l0 x11_2).f1) - x10_2)⟩ : S57) [.int .i64 x9_2, .int .i64 (wrap64 (((rd_T55 l0 x11_2).f0) - x9_2)), .int .i64 x10_2, .int .i64 (wrap64 (((rd_T55 l0 x11_2).f1) - x10_2))] (fun _ => True) (fun _ => False) rfl rfl ?aP (fun _ hk => hk.elim) ?aF ?aO ?aB ?aS ?aL ?_; (case aP => exact k57_mkM _ _ _ (⟨x9_2, wrap64 (((rd_T55 l0 x11_2).f0) - x9_2), x10_2, wrap64 (((rd_T55 l0 x11_2).f1) - x10_2)⟩ : S57)); (case aB => exact belNow); (case aF => exact (fun _ _ => trivial)); (case aO => exact (kdUp HO_8.out)); (case aS => exact (below_size belNow)); (case aL => have := LMc18.out; omega); intro v109 w19 ho hb hg hat; rw [← Ny108.out] at ho; replace HB := Aside0.mk hb; have HO110 := Aside0.mk (ho); clear HO_8; clear ho hb hg hat))
        repeat (go_quiet (first | ((with_reducible refine gate_builtin (b := .append) (xs := #[.tmp 76, .tmp 86]) rfl ?_); at_builtin; refine Kd.R_append k57 (w0 := w) w.heap.size rfl (.tmp 76) (.tmp 86) 22 57 (.agg #[(.int .i64 0), (.int .i64 0), (.int .i64 0), (.int .i64 0)]) 32 rfl Try.underlying22 info57 rfl (by decide) (by omega) u8 x8_2 (⟨x9_2, wrap64 (((rd_T55 l0 x11_2).f0) - x9_2), x10_2, wrap64 (((rd_T55 l0 x11_2).f1) - x10_2)⟩ : S57) [.int .i64 x9_2, .int .i64 (wrap64 (((rd_T55 l0 x11_2).f0) - x9_2)), .int .i64 x10_2, .int .i64 (wrap64 (((rd_T55 l0 x11_2).f1) - x10_2))] (fun _ => True) (fun _ => False) rfl rfl ?aP (fun _ hk => hk.elim) ?aF ?aO ?aB ?aS ?aL ?_; (case aP => exact k57_mkM _ _ _ (⟨x9_2, wrap64 (((rd_T55 l0 x11_2).f0) - x9_2), x10_2, wrap64 (((rd_T55 l0 x11_2).f1) - x10_2)⟩ : S57)); (case aB => exact belNow); (case aF => exact (fun _ _ => trivial)); (case aO => exact (kdUp HO_8.out)); (case aS => exact (below_size belNow)); (case aL => have := LMc18.out; omega); intro v109 w19 ho hb hg hat; rw [← Ny108.out] at ho; replace HB := Aside0.mk hb; have HO110 := Aside0.mk (ho); clear HO_8; clear ho hb hg hat)); try go_wp2_with (first | ((with_reducible refine gate_builtin (b := .append) (xs := #[.tmp 76, .tmp 86]) rfl ?_); at_builtin; refine Kd.R_append k57 (w0 := w) w.heap.size rfl (.tmp 76) (.tmp 86) 22 57 (.agg #[(.int .i64 0), (.int .i64 0), (.int .i64 0), (.int .i64 0)]) 32 rfl Try.underlying22 info57 rfl (by decide) (by omega) u8 x8_2 (⟨x9_2, wrap64 (((rd_T55 l0 x11_2).f0) - x9_2), x10_2, wrap64 (((rd_T55 l0 x11_2).f1) - x10_2)⟩ : S57) [.int .i64 x9_2, .int .i64 (wrap64 (((rd_T55 l0 x11_2).f0) - x9_2)), .int .i64 x10_2, .int .i64 (wrap64 (((rd_T55 l0 x11_2).f1) - x10_2))] (fun _ => True) (fun _ => False) rfl rfl ?aP (fun _ hk => hk.elim) ?aF ?aO ?aB ?aS ?aL ?_; (case aP => exact k57_mkM _ _ _ (⟨x9_2, wrap64 (((rd_T55 l0 x11_2).f0) - x9_2), x10_2, wrap64 (((rd_T55 l0 x11_2).f1) - x10_2)⟩ : S57)); (case aB => exact belNow); (case aF => exact (fun _ _ => trivial)); (case aO => exact (kdUp HO_8.out)); (case aS => exact (below_size belNow)); (case aL => have := LMc18.out; omega); intro v109 w19 ho hb hg hat; rw [← Ny108.out] at ho; replace HB := Aside0.mk hb; have HO110 := Aside0.mk (ho); clear HO_8; clear ho hb hg hat)))
        go_roundg kj11
        case measure => have := HJ3.out; have := HK2.out; have := HJ11.out; omega
        case rel => exact ⟨(y108), (wrap64 (((rd_T55 l0 x11_2).f0) + 1)), (wrap64 (((rd_T55 l0 x11_2).f1) + 1)), (wrap64 (x11_2 + 1)), eqNow, eqNow, eqNow, H', ⟨by have := HJ3.out; have := HK2.out; have := HJ11.out; omega⟩, ⟨kdMv HO110⟩, ⟨belNow⟩⟩
       replace H := itGn H
       rcases H with ⟨-, c20b0, H⟩ | ⟨-, c20b0, H⟩
       ·have H' := Aside0.mk H
        clear H
        go_wp2
        repeat (go_quiet (fail); try go_wp2)
        go_roundg kj11
        case measure => have := HJ3.out; have := HK2.out; have := HJ11.out; omega
        case rel => exact ⟨(x8_2), (wrap64 (((rd_T55 l0 x11_2).f0) + 1)), (wrap64 (((rd_T55 l0 x11_2).f1) + 1)), (wrap64 (x11_2 + 1)), eqNow, eqNow, eqNow, H', ⟨by have := HJ3.out; have := HK2.out; have := HJ11.out; omega⟩, ⟨kdMv HO_8⟩, ⟨belNow⟩⟩
       replace H := itLn H
       rcases H with ⟨_, _, H⟩ | ⟨c21, -, H⟩
       ·cases H
       have LMc21 := Aside0.mk c21
       clear c21
       obtain ⟨y111, hy111⟩ : ∃ y_ : List (S57), y_ = (x8_2 ++ [(⟨x9_2, wrap64 (((rd_T55 l0 x11_2).f0) - x9_2), x10_2, wrap64 (((rd_T55 l0 x11_2).f1) - x10_2)⟩ : S57)]) := ⟨_, rfl⟩
       replace H : (selvageref06_Of.l0 kj11 l0 a1 a2 y111 (wrap64 (((rd_T55 l0 x11_2).f0) + 1)) (wrap64 (((rd_T55 l0 x11_2).f1) + 1)) (wrap64 (x11_2 + 1))) = some (r1, r2) := by first | (rw [hy111]; with_reducible exact H) | (have H2_ := (Option.bind_some _ _).symm.trans H; rw [hy111]; with_reducible exact H2_) | (have H2_ := (Option.bind_some _ _).symm.trans H; with_reducible exact H2_) | with_reducible exact H | (rw [hy111]; exact H) | exact H
       have Ny111 := Aside0.mk hy111
       clear hy111
       have H' := Aside0.mk H
       clear H
       go_wp2_with (first | ((with_reducible refine gate_builtin (b := .append) (xs := #[.tmp 76, .tmp 86]) rfl ?_); at_builtin; refine Kd.R_append k57 (w0 := w) w.heap.size rfl (.tmp 76) (.tmp 86) 22 57 (.agg #[(.int .i64 0), (.int .i64 0), (.int .i64 0), (.int .i64 0)]) 32 rfl Try.underlying22 info57 rfl (by decide) (by omega) u8 x8_2 (⟨x9_2, wrap64 (((rd_T55 l0 x11_2).f0) - x9_2), x10_2, wrap64 (((rd_T55 l0 x11_2).f1) - x10_2)⟩ : S57) [.int .i64 x9_2, .int .i64 (wrap64 (((rd_T55 l0 x11_2).f0) - x9_2)), .int .i64 x10_2, .int .i64 (wrap64 (((rd_T55 l0 x11_2).f1) - x10_2))] (fun _ => True) (fun _ => False) rfl rfl ?aP (fun _ hk => hk.elim) ?aF ?aO ?aB ?aS ?aL ?_; (case aP => exact k57_mkM _ _ _ (⟨x9_2, wrap64 (((rd_T55 l0 x11_2).f0) - x9_2), x10_2, wrap64 (((rd_T55 l0 x11_2).f1) - x10_2)⟩ : S57)); (case aB => exact belNow); (case aF => exact (fun _ _ => trivial)); (case aO => exact (kdUp HO_8.out)); (case aS => exact (below_size belNow)); (case aL => have := LMc21.out; omega); intro v112 w22 ho hb hg hat; rw [← Ny111.out] at ho; replace HB := Aside0.mk hb; have HO113 := Aside0.mk (ho); clear HO_8; clear ho hb hg hat))
       repeat (go_quiet (first | ((with_reducible refine gate_builtin (b := .append) (xs := #[.tmp 76, .tmp 86]) rfl ?_); at_builtin; refine Kd.R_append k57 (w0 := w) w.heap.size rfl (.tmp 76) (.tmp 86) 22 57 (.agg #[(.int .i64 0), (.int .i64 0), (.int .i64 0), (.int .i64 0)]) 32 rfl Try.underlying22 info57 rfl (by decide) (by omega) u8 x8_2 (⟨x9_2, wrap64 (((rd_T55 l0 x11_2).f0) - x9_2), x10_2, wrap64 (((rd_T55 l0 x11_2).f1) - x10_2)⟩ : S57) [.int .i64 x9_2, .int .i64 (wrap64 (((rd_T55 l0 x11_2).f0) - x9_2)), .int .i64 x10_2, .int .i64 (wrap64 (((rd_T55 l0 x11_2).f1) - x10_2))] (fun _ => True) (fun _ => False) rfl rfl ?aP (fun _ hk => hk.elim) ?aF ?aO ?aB ?aS ?aL ?_; (case aP => exact k57_mkM _ _ _ (⟨x9_2, wrap64 (((rd_T55 l0 x11_2).f0) - x9_2), x10_2, wrap64 (((rd_T55 l0 x11_2).f1) - x10_2)⟩ : S57)); (case aB => exact belNow); (case aF => exact (fun _ _ => trivial)); (case aO => exact (kdUp HO_8.out)); (case aS => exact (below_size belNow)); (case aL => have := LMc21.out; omega); intro v112 w22 ho hb hg hat; rw [← Ny111.out] at ho; replace HB := Aside0.mk hb; have HO113 := Aside0.mk (ho); clear HO_8; clear ho hb hg hat)); try go_wp2_with (first | ((with_reducible refine gate_builtin (b := .append) (xs := #[.tmp 76, .tmp 86]) rfl ?_); at_builtin; refine Kd.R_append k57 (w0 := w) w.heap.size rfl (.tmp 76) (.tmp 86) 22 57 (.agg #[(.int .i64 0), (.int .i64 0), (.int .i64 0), (.int .i64 0)]) 32 rfl Try.underlying22 info57 rfl (by decide) (by omega) u8 x8_2 (⟨x9_2, wrap64 (((rd_T55 l0 x11_2).f0) - x9_2), x10_2, wrap64 (((rd_T55 l0 x11_2).f1) - x10_2)⟩ : S57) [.int .i64 x9_2, .int .i64 (wrap64 (((rd_T55 l0 x11_2).f0) - x9_2)), .int .i64 x10_2, .int .i64 (wrap64 (((rd_T55 l0 x11_2).f1) - x10_2))] (fun _ => True) (fun _ => False) rfl rfl ?aP (fun _ hk => hk.elim) ?aF ?aO ?aB ?aS ?aL ?_; (case aP => exact k57_mkM _ _ _ (⟨x9_2, wrap64 (((rd_T55 l0 x11_2).f0) - x9_2), x10_2, wrap64 (((rd_T55 l0 x11_2).f1) - x10_2)⟩ : S57)); (case aB => exact belNow); (case aF => exact (fun _ _ => trivial)); (case aO => exact (kdUp HO_8.out)); (case aS => exact (below_size belNow)); (case aL => have := LMc21.out; omega); intro v112 w22 ho hb hg hat; rw [← Ny111.out] at ho; replace HB := Aside0.mk hb; have HO113 := Aside0.mk (ho); clear HO_8; clear ho hb hg hat)))
       go_roundg kj11
       case measure => have := HJ3.out; have := HK2.out; have := HJ11.out; omega
       case rel => exact ⟨(y111), (wrap64 (((rd_T55 l0 x11_2).f0) + 1)), (wrap64 (((rd_T55 l0 x11_2).f1) + 1)), (wrap64 (x11_2 + 1)), eqNow, eqNow, eqNow, H', ⟨by have := HJ3.out; have := HK2.out; have := HJ11.out; omega⟩, ⟨kdMv HO113⟩, ⟨belNow⟩⟩
mutual
def selvageref06_pairs.l0 : Nat → List (S57) → Int → List (S55) → Int → Int → Int → Option ((List (S55)))
 | 0, _, _, _, _, _, _ => none
 | k + 1, x0, x1, x5, x6, x7, x8 => if x8 ≤ (x0.length : Int) then (if x8 < (x0.length : Int) then (if 0 ≤ x8 then (selvageref06_pairs.j1 k x0 x1 x5 x6 x7 x8 ((rd_T57 x0 x8).f0)) else (none)) else (selvageref06_pairs.j1 k x0 x1 x5 x6 x7 x8 x1)) else (some x5)
def selvageref06_pairs.j1 : Nat → List (S57) → Int → List (S55) → Int → Int → Int → Int → Option ((List (S55)))
 | 0, _, _, _, _, _, _, _ => none
 | k + 1, x0, x1, x5, x6, x7, x8, x9 => selvageref06_pairs.l1 k x0 x1 x5 x6 x7 x8 x9
def selvageref06_pairs.l1 : Nat → List (S57) → Int → List (S55) → Int → Int → Int → Int → Option ((List (S55)))
 | 0, _, _, _, _, _, _, _ => none
 | k + 1, x0, x1, x5, x6, x7, x8, x9 => if x6 < x9 then (if x5.length < 8796093022208 then (selvageref06_pairs.l1 k x0 x1 (x5 ++ [(⟨x6, x7⟩ : S55)]) (wrap64 (x6 + 1)) (wrap64 (x7 + 1)) x8 x9) else (none)) else (if x8 < (x0.length : Int) then (if 0 ≤ x8 then (selvageref06_pairs.l0 k x0 x1 x5 (wrap64 (((rd_T57 x0 x8).f0) + ((rd_T57 x0 x8).f1))) (wrap64 (((rd_T57 x0 x8).f2) + ((rd_T57 x0 x8).f3))) (wrap64 (x8 + 1))) else (none)) else (selvageref06_pairs.l0 k x0 x1 x5 x6 x7 (wrap64 (x8 + 1))))
end
def selvageref06_pairs.f (k : Nat) (l0 : List (S57)) (a1 : Int) : Option ((List (S55))) := selvageref06_pairs.l0 k l0 a1 ([] : List (S55)) 0 0 0
set_option maxHeartbeats 80000000 in
set_option maxRecDepth 100000 in
theorem selvageref06_pairs.calls (k : Nat) (A0 : Option Addr) (c0 : Nat) (l0 : List (S57)) (a1 : Int) (r : List (S55)) (w : World) (hr0 : Kd.C k57 w A0 l0.length l0) (hc0 : l0.length ≤ c0) (h : selvageref06_pairs.f k l0 a1 = some r) :
  Calls Try.prog 37 #[.slice A0 l0.length c0, .int .i64 a1] w fun e w' => ∃ v0_ : Value, e = .returned (v0_) ∧ Kd.R k55 55 w' w.heap.size (fun _ => True) v0_ r ∧ Below w.heap.size w w' := by
 have hu55 := Try.underlying55
 have HR0 := Aside0.mk hr0
 have HC0 := Aside0.mk hc0
 clear hr0 hc0
 have HB := Aside0.mk (Below.refl w.heap.size w)
 have H := h
 clear h
 unfold selvageref06_pairs.f at H
 have H' := Aside0.mk H
 clear H
 go_enter Try.func37, Try.ntmps37
 try simp only [List.append_eq, List.cons_append, List.nil_append]
 go_wp2
 repeat (go_quiet (fail); try go_wp2)
 go_loopg [5, 6, 7, 8] k (fun kq v5 v6 v7 v8 w' => ∃ (x5_1 : List (S55)) (x6_1 : Int) (x7_1 : Int) (x8_1 : Int), v6 = .int .i64 x6_1 ∧ v7 = .int .i64 x7_1 ∧ v8 = .int .i64 x8_1 ∧ Aside0 (selvageref06_pairs.l0 kq l0 a1 x5_1 x6_1 x7_1 x8_1 = some r) ∧ Aside0 (kq ≤ k) ∧ Aside0 (Kd.R k55 55 w' w.heap.size (fun _ => True) v5 x5_1) ∧ Aside0 (Below w.heap.size w w'))
 case atStart => exact ⟨(([] : List (S55))), (0), (0), (0), eqNow, eqNow, eqNow, H', ⟨Nat.le_refl _⟩, ⟨by first | exact Kd.R_nil _ _ _ _ _ | exact Kd.N_nil _ _ _ _ _ | exact Kd.V_nil _ _ _ _ _ | exact Kd.Q_nil _ _ _ _ _ | exact Kd.S_nil _ _ _ _ _⟩, ⟨belNow⟩⟩
 case round =>
  clear H'
  obtain ⟨x5_1, x6_1, x7_1, x8_1, rfl, rfl, rfl, HA, HK1, HO_5, HB⟩ := hrel
  cases gk with
  | zero => exact absurd HA.out (by simp [selvageref06_pairs.l0])
  | succ k1 =>
   have H := HA.out
   clear HA
   simp only [selvageref06_pairs.l0] at H
   replace H := itLn H
   rcases H with ⟨-, c3b0, H⟩ | ⟨-, c3b0, H⟩
   ·obtain rfl := Option.some.inj H
    go_wp2
    repeat (go_quiet (fail); try go_wp2)
    go_ret
    exact ⟨_, eqEnd, by (with_reducible repeat (first | apply Kd.R_alloc | apply Kd.R_drewN | apply Kd.R_drew)); exact HO_5.out, belNow⟩
   have HC4 := Aside0.mk H
   clear H
   go_upto_if 20 with (fail)
   repeat (go_quiet (fail); go_upto_if 20 with (fail))
   go_cut [9] (fun v9 wc => ∃ (kq : Nat) (x9_3 : Int), v9 = .int .i64 x9_3 ∧ Aside0 (selvageref06_pairs.j1 kq l0 a1 x5_1 x6_1 x7_1 x8_1 x9_3 = some r) ∧ Aside0 (kq ≤ k1) ∧ Aside0 (Kd.R k55 55 wc w.heap.size (fun _ => True) u5 x5_1) ∧ Aside0 (Below w.heap.size w wc))
   case first =>
    have H := HC4.out
    clear HC4
    replace H := itLn H
    rcases H with ⟨-, c5b0, H⟩ | ⟨-, c5b0, H⟩
    ·(first | rw [c5b0] | (simp only [i64_w, i32_w]; rw [c5b0]) | skip)
     have H' := Aside0.mk H
     clear H
     go_wp2
     repeat (go_quiet (fail); try go_wp2)
     go_meet
     case rel => exact ⟨_, (a1), eqNow, H', ⟨by have := HK1.out; first | omega | exact Nat.le_refl _⟩, ⟨kdMv HO_5⟩, ⟨belNow⟩⟩
    (first | rw [c5b0] | (simp only [i64_w, i32_w]; rw [c5b0]) | skip)
    replace H := itLn H
    rcases H with ⟨_, _, H⟩ | ⟨-, c6b0, H⟩
    ·cases H
    have H' := Aside0.mk H
    clear H
    obtain ⟨ad120, rfl, hx120_0, hx120_1, hx120_2, hx120_3, p120, q120⟩ := atU_T57 HR0 HB x8_1
    go_wp2
    repeat (go_quiet (fail); try go_wp2)
    go_meet
    case rel => exact ⟨_, ((rd_T57 l0 x8_1).f0), eqNow, H', ⟨by have := HK1.out; first | omega | exact Nat.le_refl _⟩, ⟨kdMv HO_5⟩, ⟨belNow⟩⟩
   case rest =>
    clear HC4
    try clear c3
    try clear c3b0
    obtain ⟨kq, x9_3, rfl, HA, HJ3, HO_5, HB⟩ := hcut
    cases kq with
    | zero => exact absurd HA.out (by simp [selvageref06_pairs.j1])
    | succ kj3 =>
     have H := HA.out
     clear HA
     simp only [selvageref06_pairs.j1] at H
     have H' := Aside0.mk H
     clear H
     go_wp2
     repeat (go_quiet (fail); try go_wp2)
     go_loopg [5, 6, 7] kj3 (fun kq v5 v6 v7 w' => ∃ (x5_3 : List (S55)) (x6_3 : Int) (x7_3 : Int), v6 = .int .i64 x6_3 ∧ v7 = .int .i64 x7_3 ∧ Aside0 (selvageref06_pairs.l1 kq l0 a1 x5_3 x6_3 x7_3 x8_1 x9_3 = some r) ∧ Aside0 (kq ≤ kj3) ∧ Aside0 (Kd.R k55 55 w' w.heap.size (fun _ => True) v5 x5_3) ∧ Aside0 (Below w.heap.size w w'))
     case atStart => exact ⟨(x5_1), (x6_1), (x7_1), eqNow, eqNow, H', ⟨Nat.le_refl _⟩, ⟨kdMv HO_5⟩, ⟨belNow⟩⟩
     case round =>
      clear H'
      try clear c3
      try clear c3b0
      obtain ⟨x5_3, x6_3, x7_3, rfl, rfl, HA, HK3, HO_5, HB⟩ := hrel
      cases gk with
      | zero => exact absurd HA.out (by simp [selvageref06_pairs.l1])
      | succ k3 =>
       have H := HA.out
       clear HA
       simp only [selvageref06_pairs.l1] at H
       replace H := itLn H
       rcases H with ⟨-, c7b0, H⟩ | ⟨-, c7b0, H⟩
       ·replace H := itLn H
        rcases H with ⟨-, c10b0, H⟩ | ⟨-, c10b0, H⟩
        ·have H' := Aside0.mk H
         clear H
         go_wp2
         repeat (go_quiet (fail); try go_wp2)
         go_roundg k3
         case measure => have := HK1.out; have := HJ3.out; have := HK3.out; omega
         case rel => exact ⟨(x5_3), (x6_3), (x7_3), (wrap64 (x8_1 + 1)), eqNow, eqNow, eqNow, H', ⟨by have := HK1.out; have := HJ3.out; have := HK3.out; omega⟩, ⟨kdMv HO_5⟩, ⟨belNow⟩⟩
        replace H := itLn H
        rcases H with ⟨_, _, H⟩ | ⟨-, c11b0, H⟩
        ·cases H
        have H' := Aside0.mk H
        clear H
        obtain ⟨ad124, rfl, hx124_0, hx124_1, hx124_2, hx124_3, p124, q124⟩ := atU_T57 HR0 HB x8_1
        have p125 : 0 ≤ (x8_1 : Int) := ofDec
        have q125 : x8_1 < (l0.length : Int) := ofDec
        obtain ⟨ad125, e125, hx125_0, hx125_1, hx125_2, hx125_3⟩ := at_T57 HR0.out x8_1 p125 q125
        obtain rfl : ad124 = ad125 := (by injection e125)
        replace hx125_0 := cUp HB.out hx125_0
        replace hx125_1 := cUp HB.out hx125_1
        replace hx125_2 := cUp HB.out hx125_2
        replace hx125_3 := cUp HB.out hx125_3
        replace p125 := eq_true p125
        replace q125 := eq_true q125
        have p126 : 0 ≤ (x8_1 : Int) := ofDec
        have q126 : x8_1 < (l0.length : Int) := ofDec
        obtain ⟨ad126, e126, hx126_0, hx126_1, hx126_2, hx126_3⟩ := at_T57 HR0.out x8_1 p126 q126
        obtain rfl : ad124 = ad126 := (by injection e126)
        replace hx126_0 := cUp HB.out hx126_0
        replace hx126_1 := cUp HB.out hx126_1
        replace hx126_2 := cUp HB.out hx126_2
        replace hx126_3 := cUp HB.out hx126_3
        replace p126 := eq_true p126
        replace q126 := eq_true q126
        have p127 : 0 ≤ (x8_1 : Int) := ofDec
        have q127 : x8_1 < (l0.length : Int) := ofDec
        obtain ⟨ad127, e127, hx127_0, hx127_1, hx127_2, hx127_3⟩ := at_T57 HR0.out x8_1 p127 q127
        obtain rfl : ad124 = ad127 := (by injection e127)
        replace hx127_0 := cUp HB.out hx127_0
        replace hx127_1 := cUp HB.out hx127_1
        replace hx127_2 := cUp HB.out hx127_2
        replace hx127_3 := cUp HB.out hx127_3
        replace p127 := eq_true p127
        replace q127 := eq_true q127
        go_wp2
        repeat (go_quiet (fail); try go_wp2)
        go_roundg k3
        case measure => have := HK1.out; have := HJ3.out; have := HK3.out; omega
        case rel => exact ⟨(x5_3), (wrap64 (((rd_T57 l0 x8_1).f0) + ((rd_T57 l0 x8_1).f1))), (wrap64 (((rd_T57 l0 x8_1).f2) + ((rd_T57 l0 x8_1).f3))), (wrap64 (x8_1 + 1)), eqNow, eqNow, eqNow, H', ⟨by have := HK1.out; have := HJ3.out; have := HK3.out; omega⟩, ⟨kdMv HO_5⟩, ⟨belNow⟩⟩
       replace H := itLn H
       rcases H with ⟨_, _, H⟩ | ⟨c8, -, H⟩
       ·cases H
       have LMc8 := Aside0.mk c8
       clear c8
       obtain ⟨y121, hy121⟩ : ∃ y_ : List (S55), y_ = (x5_3 ++ [(⟨x6_3, x7_3⟩ : S55)]) := ⟨_, rfl⟩
       replace H : (selvageref06_pairs.l1 k3 l0 a1 y121 (wrap64 (x6_3 + 1)) (wrap64 (x7_3 + 1)) x8_1 x9_3) = some r := by first | (rw [hy121]; with_reducible exact H) | (have H2_ := (Option.bind_some _ _).symm.trans H; rw [hy121]; with_reducible exact H2_) | (have H2_ := (Option.bind_some _ _).symm.trans H; with_reducible exact H2_) | with_reducible exact H | (rw [hy121]; exact H) | exact H
       have Ny121 := Aside0.mk hy121
       clear hy121
       have H' := Aside0.mk H
       clear H
       go_wp2_with (first | ((with_reducible refine gate_builtin (b := .append) (xs := #[.tmp 29, .tmp 33]) rfl ?_); at_builtin; refine Kd.R_append k55 (w0 := w) w.heap.size rfl (.tmp 29) (.tmp 33) 51 55 (.agg #[(.int .i64 0), (.int .i64 0)]) 16 rfl Try.underlying51 info55 rfl (by decide) (by omega) u5 x5_3 (⟨x6_3, x7_3⟩ : S55) [.int .i64 x6_3, .int .i64 x7_3] (fun _ => True) (fun _ => False) rfl rfl ?aP (fun _ hk => hk.elim) ?aF ?aO ?aB ?aS ?aL ?_; (case aP => exact k55_mkM _ _ _ (⟨x6_3, x7_3⟩ : S55)); (case aB => exact belNow); (case aF => exact (fun _ _ => trivial)); (case aO => exact (kdUp HO_5.out)); (case aS => exact (below_size belNow)); (case aL => have := LMc8.out; omega); intro v122 w9 ho hb hg hat; rw [← Ny121.out] at ho; replace HB := Aside0.mk hb; have HO123 := Aside0.mk (ho); clear HO_5; clear ho hb hg hat))
       repeat (go_quiet (first | ((with_reducible refine gate_builtin (b := .append) (xs := #[.tmp 29, .tmp 33]) rfl ?_); at_builtin; refine Kd.R_append k55 (w0 := w) w.heap.size rfl (.tmp 29) (.tmp 33) 51 55 (.agg #[(.int .i64 0), (.int .i64 0)]) 16 rfl Try.underlying51 info55 rfl (by decide) (by omega) u5 x5_3 (⟨x6_3, x7_3⟩ : S55) [.int .i64 x6_3, .int .i64 x7_3] (fun _ => True) (fun _ => False) rfl rfl ?aP (fun _ hk => hk.elim) ?aF ?aO ?aB ?aS ?aL ?_; (case aP => exact k55_mkM _ _ _ (⟨x6_3, x7_3⟩ : S55)); (case aB => exact belNow); (case aF => exact (fun _ _ => trivial)); (case aO => exact (kdUp HO_5.out)); (case aS => exact (below_size belNow)); (case aL => have := LMc8.out; omega); intro v122 w9 ho hb hg hat; rw [← Ny121.out] at ho; replace HB := Aside0.mk hb; have HO123 := Aside0.mk (ho); clear HO_5; clear ho hb hg hat)); try go_wp2_with (first | ((with_reducible refine gate_builtin (b := .append) (xs := #[.tmp 29, .tmp 33]) rfl ?_); at_builtin; refine Kd.R_append k55 (w0 := w) w.heap.size rfl (.tmp 29) (.tmp 33) 51 55 (.agg #[(.int .i64 0), (.int .i64 0)]) 16 rfl Try.underlying51 info55 rfl (by decide) (by omega) u5 x5_3 (⟨x6_3, x7_3⟩ : S55) [.int .i64 x6_3, .int .i64 x7_3] (fun _ => True) (fun _ => False) rfl rfl ?aP (fun _ hk => hk.elim) ?aF ?aO ?aB ?aS ?aL ?_; (case aP => exact k55_mkM _ _ _ (⟨x6_3, x7_3⟩ : S55)); (case aB => exact belNow); (case aF => exact (fun _ _ => trivial)); (case aO => exact (kdUp HO_5.out)); (case aS => exact (below_size belNow)); (case aL => have := LMc8.out; omega); intro v122 w9 ho hb hg hat; rw [← Ny121.out] at ho; replace HB := Aside0.mk hb; have HO123 := Aside0.mk (ho); clear HO_5; clear ho hb hg hat)))
       go_roundg k3
       case measure => have := HK1.out; have := HJ3.out; have := HK3.out; omega
       case rel => exact ⟨(y121), (wrap64 (x6_3 + 1)), (wrap64 (x7_3 + 1)), eqNow, eqNow, H', ⟨by have := HK1.out; have := HJ3.out; have := HK3.out; omega⟩, ⟨kdMv HO123⟩, ⟨belNow⟩⟩
def selvageref06_Normal.f (k : Nat) (l0 : List (S57)) (a1 : Int) (a2 : Int) : Option ((List (S57)) × Int) := (selvageref06_Valid.f k l0 a1 a2).bind fun t128 => (if t128 = 0 then ((selvageref06_pairs.f k l0 a1).bind fun t129 => ((selvageref06_Of.f k t129 a1 a2).bind fun bt132 => (some (bt132.1, bt132.2)))) else (some (([] : List (S57)), t128)))
set_option maxHeartbeats 8000000 in
set_option maxRecDepth 100000 in
theorem selvageref06_Normal.calls (k : Nat) (A0 : Option Addr) (c0 : Nat) (l0 : List (S57)) (a1 : Int) (a2 : Int) (r1 : List (S57)) (r2 : Int) (w : World) (hr0 : Kd.C k57 w A0 l0.length l0) (hc0 : l0.length ≤ c0) (h : selvageref06_Normal.f k l0 a1 a2 = some (r1, r2)) :
  Calls Try.prog 17 #[.slice A0 l0.length c0, .int .i64 a1, .int .i64 a2] w fun e w' => ∃ v0_ : Value, e = .returned (.tuple #[v0_, .int .i64 r2]) ∧ Kd.R k57 57 w' w.heap.size (fun _ => True) v0_ r1 ∧ Below w.heap.size w w' := by
 have HR0 := Aside0.mk hr0
 have HC0 := Aside0.mk hc0
 clear hr0 hc0
 have HB := Aside0.mk (Below.refl w.heap.size w)
 have H := h
 clear h
 unfold selvageref06_Normal.f at H
 replace H := bdS H
 obtain ⟨t128, A4, H⟩ := H
 replace H := itEn H
 rcases H with ⟨c5, c5b0, c5b1, H⟩ | ⟨-, c5b0, c5b1, H⟩
 ·simp only [Option.some.injEq, Prod.mk.injEq] at H
  obtain ⟨rfl, rfl⟩ := H
  go_enter Try.func17, Try.ntmps17
  go_wp2_with (first | ((with_reducible refine gate_callee (f := 35) rfl ?_); refine goL (some 12) Try.func35 #[.slice A0 l0.length c0, .int .i64 a1, .int .i64 a2] ?_; (with_reducible refine (selvageref06_Valid.calls k _ _ l0 a1 a2 t128 _ ?side1 ?side2 A4.out).mono ?_); (case side1 => repeat (first | exact HR0.out | (with_reducible refine Kd.C_alloc ?_ _) | (with_reducible refine Kd.C_drewN ?_ _) | (with_reducible refine Kd.C_drew ?_))); (case side2 => exact HC0.out); rintro e w12 ⟨rfl, hb⟩; refine ⟨_, rfl, ?_⟩; replace HB := hbD HB hb; clear hb))
  go_ret2
  exact ⟨_, eqEnd, by first | exact Kd.R_nil _ _ _ _ _ | exact Kd.N_nil _ _ _ _ _ | exact Kd.V_nil _ _ _ _ _ | exact Kd.Q_nil _ _ _ _ _ | exact Kd.S_nil _ _ _ _ _, belNow⟩
 replace H := bdS H
 obtain ⟨t129, A6, H⟩ := H
 replace H := bdS H
 obtain ⟨⟨t132, t133⟩, A7, H⟩ := H
 replace H : (some (t132, t133)) = some (r1, r2) := H
 simp only [Option.some.injEq, Prod.mk.injEq] at H
 obtain ⟨rfl, rfl⟩ := H
 go_enter Try.func17, Try.ntmps17
 go_wp2_with (first | ((with_reducible refine gate_callee (f := 35) rfl ?_); refine goL (some 12) Try.func35 #[.slice A0 l0.length c0, .int .i64 a1, .int .i64 a2] ?_; (with_reducible refine (selvageref06_Valid.calls k _ _ l0 a1 a2 t128 _ ?side1 ?side2 A4.out).mono ?_); (case side1 => repeat (first | exact HR0.out | (with_reducible refine Kd.C_alloc ?_ _) | (with_reducible refine Kd.C_drewN ?_ _) | (with_reducible refine Kd.C_drew ?_))); (case side2 => exact HC0.out); rintro e w8 ⟨rfl, hb⟩; refine ⟨_, rfl, ?_⟩; replace HB := hbD HB hb; clear hb) | ((with_reducible refine gate_callee (f := 37) rfl ?_); refine goL (some 18) Try.func37 #[.slice A0 l0.length c0, .int .i64 a1] ?_; (with_reducible refine (selvageref06_pairs.calls k _ _ l0 a1 t129 _ ?side1 ?side2 A6.out).mono ?_); (case side1 => exact kcU HR0 HB); (case side2 => exact HC0.out); rintro e w9 ⟨v130, rfl, ho0, hb⟩; refine ⟨_, rfl, ?_⟩; have HO131 := Aside0.mk (Kd.R_lower ho0 (below_size belNow)); replace HB := hbD HB hb; clear hb; (try clear ho0); obtain ⟨Ao10, co10, eo10⟩ := Kd.R_slice HO131.out; subst eo10) | ((with_reducible refine gate_callee (f := 36) rfl ?_); refine goL (some 21) Try.func36 #[.slice Ao10 t129.length co10, .int .i64 a1, .int .i64 a2] ?_; (with_reducible refine (selvageref06_Of.calls k _ _ t129 a1 a2 t132 t133 _ ?side1 ?side2 A7.out).mono ?_); (case side1 => repeat (first | exact (Kd.R_reads' HO131.out).2.2 | (with_reducible refine Kd.C_alloc ?_ _) | (with_reducible refine Kd.C_drewN ?_ _) | (with_reducible refine Kd.C_drew ?_))); (case side2 => exact (Kd.R_reads' HO131.out).2.1); rintro e w11 ⟨v134, rfl, ho0, hb⟩; refine ⟨_, rfl, ?_⟩; replace HO131 := Aside0.mk (Kd.R_below (kdUp HO131.out) hb); have HO135 := Aside0.mk (Kd.R_lower ho0 (below_size belNow)); replace HB := hbD HB hb; clear hb; (try clear ho0)))
 go_ret2
 exact ⟨_, eqEnd, by (with_reducible repeat (first | apply Kd.R_alloc | apply Kd.R_drewN | apply Kd.R_drew)); exact HO135.out, belNow⟩
end Go.Proofs.Ytkoagpnoaibdjaa.Pp
