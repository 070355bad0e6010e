-- Printed by this session's pp.py over the kit's printer, out of the translation. Lean checks it.
import Derived.Test.YtpfhgaaphaalgaaDoorESq
import Derived.Test.YtpfhgaaphaalgaaDoorPp0
import Derived.Test.YtpfhgaaphaalgaaDoorELower
namespace Go.Proofs.YtpfhgaaphaalgaaDoor.Pp
open Go.RowKit Go.Proofs.YtpfhgaaphaalgaaDoor.Ext Go.Proofs.YtpfhgaaphaalgaaDoorW.PrintWords Go.Proofs.YtpfhgaaphaalgaaDoorW.PrintLast Go.Proofs.YtpfhgaaphaalgaaDoorW.PrintMore
attribute [local go_sem] max2_int min2_int max_two min_two max_three min_three max_four min_four   -- for this text's walks alone
set_option linter.unusedVariables false
set_option linter.unusedSimpArgs false
def stringslite_HasSuffix.f (a0 : ByteArray) (a1 : ByteArray) : Option (Bool) := if (a0.size : Int) ≥ (a1.size : Int) then (if 0 ≤ (wrap64 ((a0.size : Int) - (a1.size : Int))) then (if (wrap64 ((a0.size : Int) - (a1.size : Int))) ≤ (a0.size : Int) then (some ((a0.extract ((wrap64 ((a0.size : Int) - (a1.size : Int))) : Int).toNat a0.size).toList == a1.toList)) else (none)) else (none)) else (some false)
set_option maxHeartbeats 8000000 in
set_option maxRecDepth 100000 in
theorem stringslite_HasSuffix.calls (a0 : ByteArray) (a1 : ByteArray) (r : Bool) (w : World) (h : stringslite_HasSuffix.f a0 a1 = some r) :
  Calls Tryd.prog 53 #[.string a0, .string a1] w fun e w' => e = .returned (.bool r) ∧ Drawn0 w w' := by
 have H : (if (a0.size : Int) ≥ (a1.size : Int) then (if 0 ≤ (wrap64 ((a0.size : Int) - (a1.size : Int))) then (if (wrap64 ((a0.size : Int) - (a1.size : Int))) ≤ (a0.size : Int) then (some ((a0.extract ((wrap64 ((a0.size : Int) - (a1.size : Int))) : Int).toNat a0.size).toList == a1.toList)) else (none)) else (none)) else (some false)) = some r := h
 clear h
 by_cases c3 : (a0.size : Int) ≥ (a1.size : Int)
 ·rw [if_pos c3] at H
  have c3b0 : decide ((a1.size : Int) ≤ (a0.size : Int)) = true := decide_eq_true c3
  have c3b1 : decide (a1.size ≤ a0.size) = true := decide_eq_true (Int.ofNat_le.mp c3)
  clear c3
  obtain ⟨ji4, hji4⟩ : ∃ j_ : Int, (wrap64 ((a0.size : Int) - (a1.size : Int))) = j_ := ⟨_, rfl⟩
  replace H : (if 0 ≤ (ji4) then (if (ji4) ≤ (a0.size : Int) then (some ((a0.extract ((ji4) : Int).toNat a0.size).toList == a1.toList)) else (none)) else (none)) = some r := by first | (rw [hji4] at H; exact H) | (simp only [hji4] at H ⊢; exact H)
  have hji4w : (IntKind.i64.wrap ((a0.size : Int) - (a1.size : Int))) = ji4 := (i64_w _).trans hji4
  by_cases c5 : 0 ≤ (ji4)
  ·rw [if_pos c5] at H
   have c5b0 := eq_true c5
   have c5b1 : decide (0 ≤ (ji4)) = true := decide_eq_true c5
   clear c5
   by_cases c6 : (ji4) ≤ (a0.size : Int)
   ·rw [if_pos c6] at H
    have c6b0 := eq_true c6
    have c6b1 : decide ((ji4) ≤ (a0.size : Int)) = true := decide_eq_true c6
    clear c6
    obtain rfl := Option.some.inj H
    go_enter Tryd.func53, Tryd.ntmps53
    go_wp2
    go_ret
    exact ⟨by first | rfl | (simp; done) | (simp only [← hji4] <;> (first | rfl | simp)) | (simp [*]; done) | (simp [*] <;> rfl) | (simp only [i64_w, i32_w, u8_w]; first | rfl | (simp [errW_none, errW_some] <;> rfl)) | (simp only [bne_nil, beq_nil]; first | rfl | (simp <;> rfl)), drawnNow⟩
   ·rw [if_neg c6] at H
    exact absurd H (by simp)
  ·rw [if_neg c5] at H
   exact absurd H (by simp)
 ·rw [if_neg c3] at H
  have c3b0 : decide ((a1.size : Int) ≤ (a0.size : Int)) = false := decide_eq_false c3
  have c3b1 : decide (a1.size ≤ a0.size) = false := decide_eq_false (fun h => c3 (Int.ofNat_le.mpr h))
  clear c3
  obtain rfl := Option.some.inj H
  go_enter Tryd.func53, Tryd.ntmps53
  go_wp2
  go_ret
  exact ⟨eqFin, drawnNow⟩
def stringslite_TrimSuffix.f (a0 : ByteArray) (a1 : ByteArray) : Option (ByteArray) := (stringslite_HasSuffix.f a0 a1).bind fun t101 => (if t101 = true then (if 0 ≤ (wrap64 ((a0.size : Int) - (a1.size : Int))) then (if (wrap64 ((a0.size : Int) - (a1.size : Int))) ≤ (a0.size : Int) then (some (a0.extract 0 ((wrap64 ((a0.size : Int) - (a1.size : Int))) : Int).toNat)) else (none)) else (none)) else (some a0))
set_option maxHeartbeats 8000000 in
set_option maxRecDepth 100000 in
theorem stringslite_TrimSuffix.calls (a0 : ByteArray) (a1 : ByteArray) (r : ByteArray) (w : World) (h : stringslite_TrimSuffix.f a0 a1 = some r) :
  Calls Tryd.prog 44 #[.string a0, .string a1] w fun e w' => e = .returned (.string r) ∧ Drawn0 w w' := by
 have H : ((stringslite_HasSuffix.f a0 a1).bind fun t101 => (if t101 = true then (if 0 ≤ (wrap64 ((a0.size : Int) - (a1.size : Int))) then (if (wrap64 ((a0.size : Int) - (a1.size : Int))) ≤ (a0.size : Int) then (some (a0.extract 0 ((wrap64 ((a0.size : Int) - (a1.size : Int))) : Int).toNat)) else (none)) else (none)) else (some a0))) = some r := h
 clear h
 replace H := Option.bind_eq_some_iff.mp H
 obtain ⟨t101, A30, H⟩ := H
 replace H : (if t101 = true then (if 0 ≤ (wrap64 ((a0.size : Int) - (a1.size : Int))) then (if (wrap64 ((a0.size : Int) - (a1.size : Int))) ≤ (a0.size : Int) then (some (a0.extract 0 ((wrap64 ((a0.size : Int) - (a1.size : Int))) : Int).toNat)) else (none)) else (none)) else (some a0)) = some r := H
 have A3 := Aside0.mk A30
 clear A30
 by_cases c4 : t101 = true
 ·subst c4
  have H1 : (if 0 ≤ (wrap64 ((a0.size : Int) - (a1.size : Int))) then (if (wrap64 ((a0.size : Int) - (a1.size : Int))) ≤ (a0.size : Int) then (some (a0.extract 0 ((wrap64 ((a0.size : Int) - (a1.size : Int))) : Int).toNat)) else (none)) else (none)) = some r := by rw [if_pos rfl] at H; exact H
  clear H
  have H := H1
  clear H1
  obtain ⟨ji5, hji5⟩ : ∃ j_ : Int, (wrap64 ((a0.size : Int) - (a1.size : Int))) = j_ := ⟨_, rfl⟩
  replace H : (if 0 ≤ (ji5) then (if (ji5) ≤ (a0.size : Int) then (some (a0.extract 0 ((ji5) : Int).toNat)) else (none)) else (none)) = some r := by first | (rw [hji5] at H; exact H) | (simp only [hji5] at H ⊢; exact H)
  (try rw [hji5] at A3)
  have hji5w : (IntKind.i64.wrap ((a0.size : Int) - (a1.size : Int))) = ji5 := (i64_w _).trans hji5
  by_cases c6 : 0 ≤ (ji5)
  ·rw [if_pos c6] at H
   have c6b0 := eq_true c6
   have c6b1 : decide (0 ≤ (ji5)) = true := decide_eq_true c6
   clear c6
   by_cases c7 : (ji5) ≤ (a0.size : Int)
   ·rw [if_pos c7] at H
    have c7b0 := eq_true c7
    have c7b1 : decide ((ji5) ≤ (a0.size : Int)) = true := decide_eq_true c7
    clear c7
    obtain rfl := Option.some.inj H
    go_enter Tryd.func44, Tryd.ntmps44
    go_wp2_with (first | ((with_reducible refine gate_callee (f := 53) rfl ?_); refine goesL_ (some 7) rfl rfl Tryd.func53 (by kernel_rfl) rfl #[.string a0, .string a1] rfl argsOk ?_; (with_reducible refine (stringslite_HasSuffix.calls a0 a1 true _ A3.out).mono ?_); rintro e w' ⟨rfl, ⟨nd, rfl⟩⟩; refine ⟨_, rfl, ?_⟩))
    go_ret
    exact ⟨by first | rfl | (simp; done) | (simp only [← hji5] <;> (first | rfl | simp)) | (simp [*]; done) | (simp [*] <;> rfl) | (simp only [i64_w, i32_w, u8_w]; first | rfl | (simp [errW_none, errW_some] <;> rfl)) | (simp only [bne_nil, beq_nil]; first | rfl | (simp <;> rfl)), drawnNow⟩
   ·rw [if_neg c7] at H
    exact absurd H (by simp)
  ·rw [if_neg c6] at H
   exact absurd H (by simp)
 ·replace c4 := Bool.eq_false_iff.mpr c4
  subst c4
  have H1 : (some a0) = some r := by rw [if_neg (show ¬ (false = true) by decide)] at H; exact H
  clear H
  have H := H1
  clear H1
  obtain rfl := Option.some.inj H
  go_enter Tryd.func44, Tryd.ntmps44
  go_wp2_with (first | ((with_reducible refine gate_callee (f := 53) rfl ?_); refine goesL_ (some 7) rfl rfl Tryd.func53 (by kernel_rfl) rfl #[.string a0, .string a1] rfl argsOk ?_; (with_reducible refine (stringslite_HasSuffix.calls a0 a1 false _ A3.out).mono ?_); rintro e w' ⟨rfl, ⟨nd, rfl⟩⟩; refine ⟨_, rfl, ?_⟩))
  go_ret
  exact ⟨eqFin, drawnNow⟩
def strings_TrimSuffix.f (a0 : ByteArray) (a1 : ByteArray) : Option (ByteArray) := (stringslite_TrimSuffix.f a0 a1).bind fun t102 => (some t102)
set_option maxHeartbeats 8000000 in
set_option maxRecDepth 100000 in
theorem strings_TrimSuffix.calls (a0 : ByteArray) (a1 : ByteArray) (r : ByteArray) (w : World) (h : strings_TrimSuffix.f a0 a1 = some r) :
  Calls Tryd.prog 29 #[.string a0, .string a1] w fun e w' => e = .returned (.string r) ∧ Drawn0 w w' := by
 have H : ((stringslite_TrimSuffix.f a0 a1).bind fun t102 => (some t102)) = some r := h
 clear h
 replace H := Option.bind_eq_some_iff.mp H
 obtain ⟨t102, A30, H⟩ := H
 replace H : (some t102) = some r := H
 have A3 := Aside0.mk A30
 clear A30
 obtain rfl := Option.some.inj H
 go_enter Tryd.func29, Tryd.ntmps29
 go_wp2_with (first | ((with_reducible refine gate_callee (f := 44) rfl ?_); refine goesL_ (some 7) rfl rfl Tryd.func44 (by kernel_rfl) rfl #[.string a0, .string a1] rfl argsOk ?_; (with_reducible refine (stringslite_TrimSuffix.calls a0 a1 t102 _ A3.out).mono ?_); rintro e w' ⟨rfl, ⟨nd, rfl⟩⟩; refine ⟨_, rfl, ?_⟩))
 go_ret
 exact ⟨eqFin, drawnNow⟩
def lines_Bare.f (a0 : ByteArray) : Option (ByteArray) := (strings_TrimSuffix.f a0 (⟨#[10]⟩ : ByteArray)).bind fun t103 => (some t103)
set_option maxHeartbeats 8000000 in
set_option maxRecDepth 100000 in
theorem lines_Bare.calls (a0 : ByteArray) (r : ByteArray) (w : World) (h : lines_Bare.f a0 = some r) :
  Calls Tryd.prog 18 #[.string a0] w fun e w' => e = .returned (.string r) ∧ Drawn0 w w' := by
 have H : ((strings_TrimSuffix.f a0 (⟨#[10]⟩ : ByteArray)).bind fun t103 => (some t103)) = some r := h
 clear h
 replace H := Option.bind_eq_some_iff.mp H
 obtain ⟨t103, A20, H⟩ := H
 replace H : (some t103) = some r := H
 have A2 := Aside0.mk A20
 clear A20
 obtain rfl := Option.some.inj H
 go_enter Tryd.func18, Tryd.ntmps18
 go_wp2_with (first | ((with_reducible refine gate_callee (f := 29) rfl ?_); refine goesL_ (some 4) rfl rfl Tryd.func29 (by kernel_rfl) rfl #[.string a0, .string (⟨#[10]⟩ : ByteArray)] rfl argsOk ?_; (with_reducible refine (strings_TrimSuffix.calls a0 (⟨#[10]⟩ : ByteArray) t103 _ A2.out).mono ?_); rintro e w' ⟨rfl, ⟨nd, rfl⟩⟩; refine ⟨_, rfl, ?_⟩))
 go_ret
 exact ⟨eqFin, drawnNow⟩
def intern_without.l0 : Nat → ByteArray → List Int → Int → Int → Option (ByteArray)
 | 0, _, _, _, _ => none
 | k + 1, x0, x3, x6, x7 => if x7 < x6 then (if 0 ≤ x7 then (if x7 < (x0.size : Int) then ((strings_IndexByte.f (⟨#[9, 11, 12, 13, 32]⟩ : ByteArray) (bt x0 x7)).bind fun t104 => (if t104 < 0 then (if x3.length < 140737488355328 then (intern_without.l0 k x0 (x3 ++ [bt x0 x7]) x6 (wrap64 (x7 + 1))) else (none)) else (intern_without.l0 k x0 x3 x6 (wrap64 (x7 + 1))))) else (none)) else (none)) else (some (strOfNums x3))
def intern_without.f (k : Nat) (a0 : ByteArray) : Option (ByteArray) := intern_without.l0 k a0 ([] : List Int) (a0.size : Int) 0
theorem intern_without.mono_l : ∀ k, (∀ y0 y1 y2 y3, LeO (intern_without.l0 k y0 y1 y2 y3) (intern_without.l0 (k + 1) y0 y1 y2 y3))
 | 0 => fun _ _ _ _ r h => by simp [intern_without.l0] at h
 | k + 1 => by
  have ih0 := intern_without.mono_l k
  ·intro y0 y1 y2 y3
   unfold intern_without.l0
   repeat' first
   | (with_reducible exact ih0 _ _ _ _)
   | (with_reducible exact LeO.refl _)
   | (with_reducible exact LeO.none _)
   | (with_reducible refine LeO.ite ?_ ?_)
   | (with_reducible refine LeO.bind ?_ (fun _ => ?_))
   | exact ih0 _ _ _ _
   | exact LeO.none _
   | refine LeO.ite ?_ ?_
   | refine LeO.bind ?_ (fun _ => ?_)
theorem intern_without.mono : ∀ a0 k, LeO (intern_without.f k a0) (intern_without.f (k + 1) a0) := by
 intro a0 k
 have ih0 := intern_without.mono_l k
 unfold intern_without.f
 repeat' first
   | (with_reducible exact ih0 _ _ _ _)
   | (with_reducible exact LeO.refl _)
   | (with_reducible exact LeO.none _)
   | (with_reducible refine LeO.ite ?_ ?_)
   | (with_reducible refine LeO.bind ?_ (fun _ => ?_))
   | exact ih0 _ _ _ _
   | exact LeO.none _
   | refine LeO.ite ?_ ?_
   | refine LeO.bind ?_ (fun _ => ?_)
set_option maxHeartbeats 8000000 in
set_option maxRecDepth 100000 in
theorem intern_without.calls (k : Nat) (a0 : ByteArray) (r : ByteArray) (w : World) (h : intern_without.f k a0 = some r) :
  Calls Tryd.prog 19 #[.string a0] w fun e w' => e = .returned (.string r) ∧ Below w.heap.size w w' := by
 have HB := Aside0.mk (Below.refl w.heap.size w)
 have H : (intern_without.l0 k a0 ([] : List Int) (a0.size : Int) 0) = some r := h
 clear h
 have H' := Aside0.mk H
 clear H
 go_enter Tryd.func19, Tryd.ntmps19
 go_wp2
 go_loopg [3, 7] k (fun kq v3 v7 w' => ∃ (x3_1 : List Int) (x7_1 : Int), v7 = .int .i64 x7_1 ∧ Aside0 (intern_without.l0 kq a0 x3_1 (a0.size : Int) x7_1 = some r) ∧ Aside0 (kq ≤ k) ∧ Aside0 (Kd.R (Kd.int .u8) 5 w' w.heap.size (fun _ => True) v3 x3_1) ∧ Aside0 (Below w.heap.size w w'))
 case atStart => exact ⟨(([] : List Int)), (0), eqNow, H', ⟨Nat.le_refl _⟩, ⟨by first | exact Kd.R_nil _ _ _ _ _ | exact Kd.N_nil _ _ _ _ _ | exact Kd.V_nil _ _ _ _ _ | exact Kd.Q_nil _ _ _ _ _ | exact Kd.S_nil _ _ _ _ _⟩, ⟨belNow⟩⟩
 case round =>
  clear H'
  try clear c1
  obtain ⟨x3_1, x7_1, rfl, HA, HK1, HO_3, HB⟩ := hrel
  cases gk with
  | zero => exact absurd HA.out (by simp [intern_without.l0])
  | succ k1 =>
   have H := HA.out
   clear HA
   simp only [intern_without.l0] at H
   by_cases c2 : x7_1 < (a0.size : Int)
   ·rw [if_pos c2] at H
    have c2b0 : decide (x7_1 < (a0.size : Int)) = true := decide_eq_true c2
    clear c2
    by_cases c3 : 0 ≤ x7_1
    ·rw [if_pos c3] at H
     have c3b0 : decide (0 ≤ x7_1) = true := decide_eq_true c3
     clear c3
     by_cases c4 : x7_1 < (a0.size : Int)
     ·rw [if_pos c4] at H
      have c4b0 : decide (x7_1 < (a0.size : Int)) = true := decide_eq_true c4
      clear c4
      replace H := Option.bind_eq_some_iff.mp H
      obtain ⟨t104, A60, H⟩ := H
      replace H : (if t104 < 0 then (if x3_1.length < 140737488355328 then (intern_without.l0 k1 a0 (x3_1 ++ [bt a0 x7_1]) (a0.size : Int) (wrap64 (x7_1 + 1))) else (none)) else (intern_without.l0 k1 a0 x3_1 (a0.size : Int) (wrap64 (x7_1 + 1)))) = some r := H
      have A6 := Aside0.mk A60
      clear A60
      by_cases c7 : t104 < 0
      ·rw [if_pos c7] at H
       have c7b0 : decide (t104 < 0) = true := decide_eq_true c7
       clear c7
       by_cases c9 : x3_1.length < 140737488355328
       ·rw [if_pos c9] at H
        have LMc9 := Aside0.mk c9
        clear c9
        obtain ⟨y105, hy105⟩ : ∃ y_ : List Int, y_ = (x3_1 ++ [bt a0 x7_1]) := ⟨_, rfl⟩
        replace H : (intern_without.l0 k1 a0 y105 (a0.size : Int) (wrap64 (x7_1 + 1))) = some r := by first | (rw [hy105]; with_reducible exact H) | (have H2_ := (Option.bind_some _ _).symm.trans H; rw [hy105]; with_reducible exact H2_) | (have H2_ := (Option.bind_some _ _).symm.trans H; with_reducible exact H2_) | with_reducible exact H | (rw [hy105]; exact H) | exact H
        have Ny105 := Aside0.mk hy105
        clear hy105
        have H' := Aside0.mk H
        clear H
        have p5 : 0 ≤ (x7_1 : Int) := ofDec
        have q5 : x7_1 < (a0.size : Int) := ofDec
        have hx5 := bt_at a0 x7_1
        replace p5 := eq_true p5
        replace q5 := eq_true q5
        go_wp2_with (first | ((with_reducible refine gate_callee (f := 30) rfl ?_); refine goesL_ (some 13) rfl rfl Tryd.func30 (by kernel_rfl) rfl #[.string (⟨#[9, 11, 12, 13, 32]⟩ : ByteArray), .int .u8 (bt a0 x7_1)] rfl argsOk ?_; (with_reducible refine (strings_IndexByte.calls (⟨#[9, 11, 12, 13, 32]⟩ : ByteArray) (bt a0 x7_1) t104 _ A6.out).mono ?_); rintro e w' ⟨rfl, ⟨nd, rfl⟩⟩; refine ⟨_, rfl, ?_⟩; have p8 : 0 ≤ (x7_1 : Int) := ofDec; have q8 : x7_1 < (a0.size : Int) := ofDec; have hx8 := bt_at a0 x7_1; replace p8 := eq_true p8; replace q8 := eq_true q8) | ((with_reducible refine gate_builtin (b := .append) (xs := #[.tmp 15, .tmp 19]) rfl ?_); at_builtin; refine Kd.R_append (Kd.int .u8) (w0 := w) w.heap.size rfl (.tmp 15) (.tmp 19) 42 5 (.int .u8 0) 1 rfl Tryd.underlying42 info5 rfl (by decide) (by omega) u3 x3_1 (bt a0 x7_1) [.int .u8 (bt a0 x7_1)] (fun _ => True) (fun _ => False) rfl rfl ?aP (fun _ hk => hk.elim) ?aF ?aO ?aB ?aS ?aL ?_; (case aP => exact rfl); (case aB => exact belNow); (case aF => exact (fun _ _ => trivial)); (case aO => exact (kdUp HO_3.out)); (case aS => exact (below_size belNow)); (case aL => have := LMc9.out; omega); intro v106 w10 ho hb hg hat; rw [← Ny105.out] at ho; have n0_ := Aside0.mk (hb); have n1_ := Aside0.mk (ho); clear HB; clear HO_3; have HB := n0_; have HO107 := n1_; clear n0_ n1_; clear ho hb hg hat))
        go_roundg k1
        case measure => have := HK1.out; omega
        case rel => exact ⟨(y105), (wrap64 (x7_1 + 1)), eqNow, H', ⟨by have := HK1.out; omega⟩, ⟨by (with_reducible repeat (first | apply Kd.R_alloc | apply Kd.R_drewN | apply Kd.R_drew)); (first | exact HO107.out | exact Kd.R_mono HO107.out (fun k_ h_ h2_ => h_ (h2_.trans ((fun (A_ : Option Addr) (n_ m_ c_ : Nat) => (show (Value.slice A_ n_ c_).ownBlock = (Value.slice A_ m_ c_).ownBlock by cases A_ <;> rfl)) _ _ _ _))))⟩, ⟨belNow⟩⟩
       ·rw [if_neg c9] at H
        exact absurd H (by simp)
      ·rw [if_neg c7] at H
       have c7b0 : decide (t104 < 0) = false := decide_eq_false c7
       clear c7
       have H' := Aside0.mk H
       clear H
       have p5 : 0 ≤ (x7_1 : Int) := ofDec
       have q5 : x7_1 < (a0.size : Int) := ofDec
       have hx5 := bt_at a0 x7_1
       replace p5 := eq_true p5
       replace q5 := eq_true q5
       go_wp2_with (first | ((with_reducible refine gate_callee (f := 30) rfl ?_); refine goesL_ (some 13) rfl rfl Tryd.func30 (by kernel_rfl) rfl #[.string (⟨#[9, 11, 12, 13, 32]⟩ : ByteArray), .int .u8 (bt a0 x7_1)] rfl argsOk ?_; (with_reducible refine (strings_IndexByte.calls (⟨#[9, 11, 12, 13, 32]⟩ : ByteArray) (bt a0 x7_1) t104 _ A6.out).mono ?_); rintro e w' ⟨rfl, ⟨nd, rfl⟩⟩; refine ⟨_, rfl, ?_⟩))
       go_roundg k1
       case measure => have := HK1.out; omega
       case rel => exact ⟨(x3_1), (wrap64 (x7_1 + 1)), eqNow, H', ⟨by have := HK1.out; omega⟩, ⟨by (with_reducible repeat (first | apply Kd.R_alloc | apply Kd.R_drewN | apply Kd.R_drew)); (first | exact HO_3.out | exact Kd.R_mono HO_3.out (fun k_ h_ h2_ => h_ (h2_.trans ((fun (A_ : Option Addr) (n_ m_ c_ : Nat) => (show (Value.slice A_ n_ c_).ownBlock = (Value.slice A_ m_ c_).ownBlock by cases A_ <;> rfl)) _ _ _ _))))⟩, ⟨belNow⟩⟩
     ·rw [if_neg c4] at H
      exact absurd H (by simp)
    ·rw [if_neg c3] at H
     exact absurd H (by simp)
   ·rw [if_neg c2] at H
    have c2b0 : decide (x7_1 < (a0.size : Int)) = false := decide_eq_false c2
    clear c2
    obtain rfl := Option.some.inj H
    have hcv11 := own_string (P := Tryd.prog) Tryd.underlying42 Tryd.underlying5 Tryd.underlying9 (Kd.own_of_R HO_3.out)
    have hcq11 := fun n_ : Nat => own_string (P := Tryd.prog) Tryd.underlying42 Tryd.underlying5 Tryd.underlying9 (Kd.own_of_R (Kd.R_drewN HO_3.out n_))
    go_wp2
    go_ret
    exact ⟨eqEnd, belNow⟩
def intern_amount.l0 : Nat → ByteArray → List Int → Bool → Int → Int → Option (ByteArray)
 | 0, _, _, _, _, _ => none
 | k + 1, x0, x3, x4, x7, x8 => if x8 < x7 then (if 0 ≤ x8 then (if x8 < (x0.size : Int) then ((strings_IndexByte.f (⟨#[9, 11, 12, 13, 32]⟩ : ByteArray) (bt x0 x8)).bind fun t108 => (if t108 ≥ 0 then (intern_amount.l0 k x0 x3 true x7 (wrap64 (x8 + 1))) else (if x4 = true then (if x3.length < 140737488355328 then ((some (x3 ++ [32] : List Int)).bind fun y109 => (if y109.length < 140737488355328 then (intern_amount.l0 k x0 (y109 ++ [bt x0 x8]) false x7 (wrap64 (x8 + 1))) else (none))) else (none)) else (if x3.length < 140737488355328 then (intern_amount.l0 k x0 (x3 ++ [bt x0 x8]) false x7 (wrap64 (x8 + 1))) else (none))))) else (none)) else (none)) else (some (strOfNums x3))
def intern_amount.f (k : Nat) (a0 : ByteArray) : Option (ByteArray) := intern_amount.l0 k a0 ([] : List Int) false (a0.size : Int) 0
theorem intern_amount.mono_l : ∀ k, (∀ y0 y1 y2 y3 y4, LeO (intern_amount.l0 k y0 y1 y2 y3 y4) (intern_amount.l0 (k + 1) y0 y1 y2 y3 y4))
 | 0 => fun _ _ _ _ _ r h => by simp [intern_amount.l0] at h
 | k + 1 => by
  have ih0 := intern_amount.mono_l k
  ·intro y0 y1 y2 y3 y4
   unfold intern_amount.l0
   repeat' first
   | (with_reducible exact ih0 _ _ _ _ _)
   | (with_reducible exact LeO.refl _)
   | (with_reducible exact LeO.none _)
   | (with_reducible refine LeO.ite ?_ ?_)
   | (with_reducible refine LeO.bind ?_ (fun _ => ?_))
   | exact ih0 _ _ _ _ _
   | exact LeO.none _
   | refine LeO.ite ?_ ?_
   | refine LeO.bind ?_ (fun _ => ?_)
theorem intern_amount.mono : ∀ a0 k, LeO (intern_amount.f k a0) (intern_amount.f (k + 1) a0) := by
 intro a0 k
 have ih0 := intern_amount.mono_l k
 unfold intern_amount.f
 repeat' first
   | (with_reducible exact ih0 _ _ _ _ _)
   | (with_reducible exact LeO.refl _)
   | (with_reducible exact LeO.none _)
   | (with_reducible refine LeO.ite ?_ ?_)
   | (with_reducible refine LeO.bind ?_ (fun _ => ?_))
   | exact ih0 _ _ _ _ _
   | exact LeO.none _
   | refine LeO.ite ?_ ?_
   | refine LeO.bind ?_ (fun _ => ?_)
set_option maxHeartbeats 8000000 in
set_option maxRecDepth 100000 in
theorem intern_amount.calls (k : Nat) (a0 : ByteArray) (r : ByteArray) (w : World) (h : intern_amount.f k a0 = some r) :
  Calls Tryd.prog 20 #[.string a0] w fun e w' => e = .returned (.string r) ∧ Below w.heap.size w w' := by
 have HB := Aside0.mk (Below.refl w.heap.size w)
 have H : (intern_amount.l0 k a0 ([] : List Int) false (a0.size : Int) 0) = some r := h
 clear h
 have H' := Aside0.mk H
 clear H
 go_enter Tryd.func20, Tryd.ntmps20
 go_wp2
 go_loopg [3, 4, 8] k (fun kq v3 v4 v8 w' => ∃ (x3_1 : List Int) (x4_1 : Bool) (x8_1 : Int), v4 = .bool x4_1 ∧ v8 = .int .i64 x8_1 ∧ Aside0 (intern_amount.l0 kq a0 x3_1 x4_1 (a0.size : Int) x8_1 = some r) ∧ Aside0 (kq ≤ k) ∧ Aside0 (Kd.R (Kd.int .u8) 5 w' w.heap.size (fun _ => True) v3 x3_1) ∧ Aside0 (Below w.heap.size w w'))
 case atStart => exact ⟨(([] : List Int)), (false), (0), eqNow, eqNow, H', ⟨Nat.le_refl _⟩, ⟨by first | exact Kd.R_nil _ _ _ _ _ | exact Kd.N_nil _ _ _ _ _ | exact Kd.V_nil _ _ _ _ _ | exact Kd.Q_nil _ _ _ _ _ | exact Kd.S_nil _ _ _ _ _⟩, ⟨belNow⟩⟩
 case round =>
  clear H'
  obtain ⟨x3_1, x4_1, x8_1, rfl, rfl, HA, HK1, HO_3, HB⟩ := hrel
  cases gk with
  | zero => exact absurd HA.out (by simp [intern_amount.l0])
  | succ k1 =>
   have H := HA.out
   clear HA
   simp only [intern_amount.l0] at H
   by_cases c2 : x8_1 < (a0.size : Int)
   ·rw [if_pos c2] at H
    have c2b0 : decide (x8_1 < (a0.size : Int)) = true := decide_eq_true c2
    clear c2
    by_cases c3 : 0 ≤ x8_1
    ·rw [if_pos c3] at H
     have c3b0 : decide (0 ≤ x8_1) = true := decide_eq_true c3
     clear c3
     by_cases c4 : x8_1 < (a0.size : Int)
     ·rw [if_pos c4] at H
      have c4b0 : decide (x8_1 < (a0.size : Int)) = true := decide_eq_true c4
      clear c4
      replace H := Option.bind_eq_some_iff.mp H
      obtain ⟨t108, A60, H⟩ := H
      replace H : (if t108 ≥ 0 then (intern_amount.l0 k1 a0 x3_1 true (a0.size : Int) (wrap64 (x8_1 + 1))) else (if x4_1 = true then (if x3_1.length < 140737488355328 then ((some (x3_1 ++ [32] : List Int)).bind fun y109 => (if y109.length < 140737488355328 then (intern_amount.l0 k1 a0 (y109 ++ [bt a0 x8_1]) false (a0.size : Int) (wrap64 (x8_1 + 1))) else (none))) else (none)) else (if x3_1.length < 140737488355328 then (intern_amount.l0 k1 a0 (x3_1 ++ [bt a0 x8_1]) false (a0.size : Int) (wrap64 (x8_1 + 1))) else (none)))) = some r := H
      have A6 := Aside0.mk A60
      clear A60
      by_cases c7 : t108 ≥ 0
      ·rw [if_pos c7] at H
       have c7b0 : decide (0 ≤ t108) = true := decide_eq_true c7
       clear c7
       have H' := Aside0.mk H
       clear H
       have p5 : 0 ≤ (x8_1 : Int) := ofDec
       have q5 : x8_1 < (a0.size : Int) := ofDec
       have hx5 := bt_at a0 x8_1
       replace p5 := eq_true p5
       replace q5 := eq_true q5
       go_wp2_with (first | ((with_reducible refine gate_callee (f := 30) rfl ?_); refine goesL_ (some 14) rfl rfl Tryd.func30 (by kernel_rfl) rfl #[.string (⟨#[9, 11, 12, 13, 32]⟩ : ByteArray), .int .u8 (bt a0 x8_1)] rfl argsOk ?_; (with_reducible refine (strings_IndexByte.calls (⟨#[9, 11, 12, 13, 32]⟩ : ByteArray) (bt a0 x8_1) t108 _ A6.out).mono ?_); rintro e w' ⟨rfl, ⟨nd, rfl⟩⟩; refine ⟨_, rfl, ?_⟩))
       go_roundg k1
       case measure => have := HK1.out; omega
       case rel => exact ⟨(x3_1), (true), (wrap64 (x8_1 + 1)), eqNow, eqNow, H', ⟨by have := HK1.out; omega⟩, ⟨by (with_reducible repeat (first | apply Kd.R_alloc | apply Kd.R_drewN | apply Kd.R_drew)); (first | exact HO_3.out | exact Kd.R_mono HO_3.out (fun k_ h_ h2_ => h_ (h2_.trans ((fun (A_ : Option Addr) (n_ m_ c_ : Nat) => (show (Value.slice A_ n_ c_).ownBlock = (Value.slice A_ m_ c_).ownBlock by cases A_ <;> rfl)) _ _ _ _))))⟩, ⟨belNow⟩⟩
      ·rw [if_neg c7] at H
       have c7b0 : decide (0 ≤ t108) = false := decide_eq_false c7
       clear c7
       by_cases c8 : x4_1 = true
       ·subst c8
        have H1 : (if x3_1.length < 140737488355328 then ((some (x3_1 ++ [32] : List Int)).bind fun y109 => (if y109.length < 140737488355328 then (intern_amount.l0 k1 a0 (y109 ++ [bt a0 x8_1]) false (a0.size : Int) (wrap64 (x8_1 + 1))) else (none))) else (none)) = some r := by rw [if_pos rfl] at H; exact H
        clear H
        have H := H1
        clear H1
        by_cases c9 : x3_1.length < 140737488355328
        ·rw [if_pos c9] at H
         have LMc9 := Aside0.mk c9
         clear c9
         obtain ⟨y109, hy109⟩ : ∃ y_ : List Int, y_ = (x3_1 ++ [32]) := ⟨_, rfl⟩
         replace H : (if y109.length < 140737488355328 then (intern_amount.l0 k1 a0 (y109 ++ [bt a0 x8_1]) false (a0.size : Int) (wrap64 (x8_1 + 1))) else (none)) = some r := by first | (rw [hy109]; with_reducible exact H) | (have H2_ := (Option.bind_some _ _).symm.trans H; rw [hy109]; with_reducible exact H2_) | (have H2_ := (Option.bind_some _ _).symm.trans H; with_reducible exact H2_) | with_reducible exact H | (rw [hy109]; exact H) | exact H
         have Ny109 := Aside0.mk hy109
         clear hy109
         by_cases c11 : y109.length < 140737488355328
         ·rw [if_pos c11] at H
          have LMc11 := Aside0.mk c11
          clear c11
          obtain ⟨y112, hy112⟩ : ∃ y_ : List Int, y_ = (y109 ++ [bt a0 x8_1]) := ⟨_, rfl⟩
          replace H : (intern_amount.l0 k1 a0 y112 false (a0.size : Int) (wrap64 (x8_1 + 1))) = some r := by first | (rw [hy112]; with_reducible exact H) | (have H2_ := (Option.bind_some _ _).symm.trans H; rw [hy112]; with_reducible exact H2_) | (have H2_ := (Option.bind_some _ _).symm.trans H; with_reducible exact H2_) | with_reducible exact H | (rw [hy112]; exact H) | exact H
          have Ny112 := Aside0.mk hy112
          clear hy112
          have H' := Aside0.mk H
          clear H
          have p5 : 0 ≤ (x8_1 : Int) := ofDec
          have q5 : x8_1 < (a0.size : Int) := ofDec
          have hx5 := bt_at a0 x8_1
          replace p5 := eq_true p5
          replace q5 := eq_true q5
          go_wp2_with (first | ((with_reducible refine gate_callee (f := 30) rfl ?_); refine goesL_ (some 14) rfl rfl Tryd.func30 (by kernel_rfl) rfl #[.string (⟨#[9, 11, 12, 13, 32]⟩ : ByteArray), .int .u8 (bt a0 x8_1)] rfl argsOk ?_; (with_reducible refine (strings_IndexByte.calls (⟨#[9, 11, 12, 13, 32]⟩ : ByteArray) (bt a0 x8_1) t108 _ A6.out).mono ?_); rintro e w' ⟨rfl, ⟨nd, rfl⟩⟩; refine ⟨_, rfl, ?_⟩) | ((with_reducible refine gate_builtin (b := .append) (xs := #[.tmp 17, .tmp 18]) rfl ?_); at_builtin; refine Kd.R_append (Kd.int .u8) (w0 := w) w.heap.size rfl (.tmp 17) (.tmp 18) 42 5 (.int .u8 0) 1 rfl Tryd.underlying42 info5 rfl (by decide) (by omega) u3 x3_1 32 [.int .u8 32] (fun _ => True) (fun _ => False) rfl rfl ?aP (fun _ hk => hk.elim) ?aF ?aO ?aB ?aS ?aL ?_; (case aP => exact rfl); (case aB => exact belNow); (case aF => exact (fun _ _ => trivial)); (case aO => exact (kdUp HO_3.out)); (case aS => exact (below_size belNow)); (case aL => have := LMc9.out; omega); intro v110 w12 ho hb hg hat; rw [← Ny109.out] at ho; have n0_ := Aside0.mk (hb); have n1_ := Aside0.mk (ho); clear HB; clear HO_3; have HB := n0_; have HO111 := n1_; clear n0_ n1_; clear ho hb hg hat; have p10 : 0 ≤ (x8_1 : Int) := ofDec; have q10 : x8_1 < (a0.size : Int) := ofDec; have hx10 := bt_at a0 x8_1; replace p10 := eq_true p10; replace q10 := eq_true q10) | ((with_reducible refine gate_builtin (b := .append) (xs := #[.tmp 20, .tmp 24]) rfl ?_); at_builtin; refine Kd.R_append (Kd.int .u8) (w0 := w) w.heap.size rfl (.tmp 20) (.tmp 24) 42 5 (.int .u8 0) 1 rfl Tryd.underlying42 info5 rfl (by decide) (by omega) v110 y109 (bt a0 x8_1) [.int .u8 (bt a0 x8_1)] (fun _ => True) (fun _ => False) rfl rfl ?aP (fun _ hk => hk.elim) ?aF ?aO ?aB ?aS ?aL ?_; (case aP => exact rfl); (case aB => exact belNow); (case aF => exact (fun _ _ => trivial)); (case aO => exact (kdUp HO111.out)); (case aS => exact (below_size belNow)); (case aL => have := LMc11.out; omega); intro v113 w13 ho hb hg hat; rw [← Ny112.out] at ho; have n0_ := Aside0.mk (hb); have n1_ := Aside0.mk (ho); clear HB; clear HO111; have HB := n0_; have HO114 := n1_; clear n0_ n1_; clear ho hb hg hat))
          go_roundg k1
          case measure => have := HK1.out; omega
          case rel => exact ⟨(y112), (false), (wrap64 (x8_1 + 1)), eqNow, eqNow, H', ⟨by have := HK1.out; omega⟩, ⟨by (with_reducible repeat (first | apply Kd.R_alloc | apply Kd.R_drewN | apply Kd.R_drew)); (first | exact HO114.out | exact Kd.R_mono HO114.out (fun k_ h_ h2_ => h_ (h2_.trans ((fun (A_ : Option Addr) (n_ m_ c_ : Nat) => (show (Value.slice A_ n_ c_).ownBlock = (Value.slice A_ m_ c_).ownBlock by cases A_ <;> rfl)) _ _ _ _))))⟩, ⟨belNow⟩⟩
         ·rw [if_neg c11] at H
          exact absurd H (by simp)
        ·rw [if_neg c9] at H
         exact absurd H (by simp)
       ·replace c8 := Bool.eq_false_iff.mpr c8
        subst c8
        have H1 : (if x3_1.length < 140737488355328 then (intern_amount.l0 k1 a0 (x3_1 ++ [bt a0 x8_1]) false (a0.size : Int) (wrap64 (x8_1 + 1))) else (none)) = some r := by rw [if_neg (show ¬ (false = true) by decide)] at H; exact H
        clear H
        have H := H1
        clear H1
        by_cases c15 : x3_1.length < 140737488355328
        ·rw [if_pos c15] at H
         have LMc15 := Aside0.mk c15
         clear c15
         obtain ⟨y115, hy115⟩ : ∃ y_ : List Int, y_ = (x3_1 ++ [bt a0 x8_1]) := ⟨_, rfl⟩
         replace H : (intern_amount.l0 k1 a0 y115 false (a0.size : Int) (wrap64 (x8_1 + 1))) = some r := by first | (rw [hy115]; with_reducible exact H) | (have H2_ := (Option.bind_some _ _).symm.trans H; rw [hy115]; with_reducible exact H2_) | (have H2_ := (Option.bind_some _ _).symm.trans H; with_reducible exact H2_) | with_reducible exact H | (rw [hy115]; exact H) | exact H
         have Ny115 := Aside0.mk hy115
         clear hy115
         have H' := Aside0.mk H
         clear H
         have p5 : 0 ≤ (x8_1 : Int) := ofDec
         have q5 : x8_1 < (a0.size : Int) := ofDec
         have hx5 := bt_at a0 x8_1
         replace p5 := eq_true p5
         replace q5 := eq_true q5
         go_wp2_with (first | ((with_reducible refine gate_callee (f := 30) rfl ?_); refine goesL_ (some 14) rfl rfl Tryd.func30 (by kernel_rfl) rfl #[.string (⟨#[9, 11, 12, 13, 32]⟩ : ByteArray), .int .u8 (bt a0 x8_1)] rfl argsOk ?_; (with_reducible refine (strings_IndexByte.calls (⟨#[9, 11, 12, 13, 32]⟩ : ByteArray) (bt a0 x8_1) t108 _ A6.out).mono ?_); rintro e w' ⟨rfl, ⟨nd, rfl⟩⟩; refine ⟨_, rfl, ?_⟩; have p14 : 0 ≤ (x8_1 : Int) := ofDec; have q14 : x8_1 < (a0.size : Int) := ofDec; have hx14 := bt_at a0 x8_1; replace p14 := eq_true p14; replace q14 := eq_true q14) | ((with_reducible refine gate_builtin (b := .append) (xs := #[.tmp 20, .tmp 24]) rfl ?_); at_builtin; refine Kd.R_append (Kd.int .u8) (w0 := w) w.heap.size rfl (.tmp 20) (.tmp 24) 42 5 (.int .u8 0) 1 rfl Tryd.underlying42 info5 rfl (by decide) (by omega) u3 x3_1 (bt a0 x8_1) [.int .u8 (bt a0 x8_1)] (fun _ => True) (fun _ => False) rfl rfl ?aP (fun _ hk => hk.elim) ?aF ?aO ?aB ?aS ?aL ?_; (case aP => exact rfl); (case aB => exact belNow); (case aF => exact (fun _ _ => trivial)); (case aO => exact (kdUp HO_3.out)); (case aS => exact (below_size belNow)); (case aL => have := LMc15.out; omega); intro v116 w16 ho hb hg hat; rw [← Ny115.out] at ho; have n0_ := Aside0.mk (hb); have n1_ := Aside0.mk (ho); clear HB; clear HO_3; have HB := n0_; have HO117 := n1_; clear n0_ n1_; clear ho hb hg hat))
         go_roundg k1
         case measure => have := HK1.out; omega
         case rel => exact ⟨(y115), (false), (wrap64 (x8_1 + 1)), eqNow, eqNow, H', ⟨by have := HK1.out; omega⟩, ⟨by (with_reducible repeat (first | apply Kd.R_alloc | apply Kd.R_drewN | apply Kd.R_drew)); (first | exact HO117.out | exact Kd.R_mono HO117.out (fun k_ h_ h2_ => h_ (h2_.trans ((fun (A_ : Option Addr) (n_ m_ c_ : Nat) => (show (Value.slice A_ n_ c_).ownBlock = (Value.slice A_ m_ c_).ownBlock by cases A_ <;> rfl)) _ _ _ _))))⟩, ⟨belNow⟩⟩
        ·rw [if_neg c15] at H
         exact absurd H (by simp)
     ·rw [if_neg c4] at H
      exact absurd H (by simp)
    ·rw [if_neg c3] at H
     exact absurd H (by simp)
   ·rw [if_neg c2] at H
    have c2b0 : decide (x8_1 < (a0.size : Int)) = false := decide_eq_false c2
    clear c2
    obtain rfl := Option.some.inj H
    have hcv17 := own_string (P := Tryd.prog) Tryd.underlying42 Tryd.underlying5 Tryd.underlying9 (Kd.own_of_R HO_3.out)
    have hcq17 := fun n_ : Nat => own_string (P := Tryd.prog) Tryd.underlying42 Tryd.underlying5 Tryd.underlying9 (Kd.own_of_R (Kd.R_drewN HO_3.out n_))
    go_wp2
    go_ret
    exact ⟨eqEnd, belNow⟩
def intern_Key.j0 : Nat → ByteArray → Int → Bool → Option (ByteArray)
 | 0, _, _, _ => none
 | k + 1, x0, x1, x12 => if x12 = true then (some x0) else ((lines_Bare.f x0).bind fun t118 => (if 0 ≤ (t118.size : Int) then (if (t118.size : Int) ≤ (x0.size : Int) then (if (Go.bits .and .i64 x1 2) = 0 then (if (Go.bits .and .i64 x1 4) = 0 then (if (Go.bits .and .i64 x1 8) = 0 then (if (Go.bits .and .i64 x1 1) = 0 then (if t118.size + (x0.extract t118.size x0.size).size ≤ 9223372036854775807 then (some (t118 ++ (x0.extract t118.size x0.size))) else (none)) else ((intern_lower.f t118).bind fun t119 => (if t119.size + (x0.extract t118.size x0.size).size ≤ 9223372036854775807 then (some (t119 ++ (x0.extract t118.size x0.size))) else (none)))) else ((strings_TrimRight.f t118 (⟨#[9, 11, 12, 13, 32]⟩ : ByteArray)).bind fun t120 => (if (Go.bits .and .i64 x1 1) = 0 then (if t120.size + (x0.extract t118.size x0.size).size ≤ 9223372036854775807 then (some (t120 ++ (x0.extract t118.size x0.size))) else (none)) else ((intern_lower.f t120).bind fun t121 => (if t121.size + (x0.extract t118.size x0.size).size ≤ 9223372036854775807 then (some (t121 ++ (x0.extract t118.size x0.size))) else (none)))))) else ((intern_amount.f k t118).bind fun t122 => (if (Go.bits .and .i64 x1 1) = 0 then (if t122.size + (x0.extract t118.size x0.size).size ≤ 9223372036854775807 then (some (t122 ++ (x0.extract t118.size x0.size))) else (none)) else ((intern_lower.f t122).bind fun t123 => (if t123.size + (x0.extract t118.size x0.size).size ≤ 9223372036854775807 then (some (t123 ++ (x0.extract t118.size x0.size))) else (none)))))) else ((intern_without.f k t118).bind fun t124 => (if (Go.bits .and .i64 x1 1) = 0 then (if t124.size + (x0.extract t118.size x0.size).size ≤ 9223372036854775807 then (some (t124 ++ (x0.extract t118.size x0.size))) else (none)) else ((intern_lower.f t124).bind fun t125 => (if t125.size + (x0.extract t118.size x0.size).size ≤ 9223372036854775807 then (some (t125 ++ (x0.extract t118.size x0.size))) else (none)))))) else (none)) else (none)))
def intern_Key.f (k : Nat) (a0 : ByteArray) (a1 : Int) : Option (ByteArray) := if a1 < 0 then (intern_Key.j0 k a0 a1 true) else (intern_Key.j0 k a0 a1 (decide (a1 > 15)))
theorem intern_Key.mono_l : ∀ k, (∀ y0 y1 y2, LeO (intern_Key.j0 k y0 y1 y2) (intern_Key.j0 (k + 1) y0 y1 y2))
 | 0 => fun _ _ _ r h => by simp [intern_Key.j0] at h
 | k + 1 => by
  have ih0 := intern_Key.mono_l k
  ·intro y0 y1 y2
   unfold intern_Key.j0
   repeat' first
   | (with_reducible exact ih0 _ _ _)
   | (with_reducible exact intern_amount.mono _ _)
   | (with_reducible exact intern_without.mono _ _)
   | (with_reducible exact LeO.refl _)
   | (with_reducible exact LeO.none _)
   | (with_reducible refine LeO.ite ?_ ?_)
   | (with_reducible refine LeO.bind ?_ (fun _ => ?_))
   | exact ih0 _ _ _
   | exact intern_amount.mono _ _
   | exact intern_without.mono _ _
   | exact LeO.none _
   | refine LeO.ite ?_ ?_
   | refine LeO.bind ?_ (fun _ => ?_)
theorem intern_Key.mono : ∀ a0 a1 k, LeO (intern_Key.f k a0 a1) (intern_Key.f (k + 1) a0 a1) := by
 intro a0 a1 k
 have ih0 := intern_Key.mono_l k
 unfold intern_Key.f
 repeat' first
   | (with_reducible exact ih0 _ _ _)
   | (with_reducible exact intern_amount.mono _ _)
   | (with_reducible exact intern_without.mono _ _)
   | (with_reducible exact LeO.refl _)
   | (with_reducible exact LeO.none _)
   | (with_reducible refine LeO.ite ?_ ?_)
   | (with_reducible refine LeO.bind ?_ (fun _ => ?_))
   | exact ih0 _ _ _
   | exact intern_amount.mono _ _
   | exact intern_without.mono _ _
   | exact LeO.none _
   | refine LeO.ite ?_ ?_
   | refine LeO.bind ?_ (fun _ => ?_)
set_option maxHeartbeats 8000000 in
set_option maxRecDepth 100000 in
theorem intern_Key.calls (k : Nat) (a0 : ByteArray) (a1 : Int) (r : ByteArray) (w : World) (h : intern_Key.f k a0 a1 = some r) :
  Calls Tryd.prog 8 #[.string a0, .int .i64 a1] w fun e w' => e = .returned (.string r) ∧ Below w.heap.size w w' := by
 have HB := Aside0.mk (Below.refl w.heap.size w)
 have H : (if a1 < 0 then (intern_Key.j0 k a0 a1 true) else (intern_Key.j0 k a0 a1 (decide (a1 > 15)))) = some r := h
 clear h
 have HC3 := Aside0.mk H
 clear H
 go_enter Tryd.func8, Tryd.ntmps8
 go_upto_region 1 with (fail)
 go_cut [12] (fun v12 wc => ∃ (kq : Nat) (x12_2 : Bool), v12 = .bool x12_2 ∧ Aside0 (intern_Key.j0 kq a0 a1 x12_2 = some r) ∧ Aside0 (kq ≤ k) ∧ Aside0 (Below w.heap.size w wc))
 case first =>
  have H := HC3.out
  clear HC3
  by_cases c4 : a1 < 0
  ·rw [if_pos c4] at H
   have c4b0 : decide (a1 < 0) = true := decide_eq_true c4
   clear c4
   (first | rw [c4b0] | (simp only [i64_w, i32_w]; rw [c4b0]) | skip)
   have H' := Aside0.mk H
   clear H
   go_wp2
   go_meet
   case rel => exact ⟨_, (true), eqNow, H', ⟨by first | omega | exact Nat.le_refl _⟩, ⟨belNow⟩⟩
  ·rw [if_neg c4] at H
   have c4b0 : decide (a1 < 0) = false := decide_eq_false c4
   clear c4
   (first | rw [c4b0] | (simp only [i64_w, i32_w]; rw [c4b0]) | skip)
   have H' := Aside0.mk H
   clear H
   go_wp2
   go_meet
   case rel => exact ⟨_, (decide (a1 > 15)), eqNow, H', ⟨by first | omega | exact Nat.le_refl _⟩, ⟨belNow⟩⟩
 case rest =>
  clear HC3
  try clear p2
  try clear c4
  try clear c4b0
  obtain ⟨kq, x12_2, rfl, HA, HJ2, HB⟩ := hcut
  cases kq with
  | zero => exact absurd HA.out (by simp [intern_Key.j0])
  | succ kj2 =>
   have H := HA.out
   clear HA
   simp only [intern_Key.j0] at H
   by_cases c5 : x12_2 = true
   ·subst c5
    have H1 : (some a0) = some r := by rw [if_pos rfl] at H; exact H
    clear H
    have H := H1
    clear H1
    obtain rfl := Option.some.inj H
    go_wp2
    go_ret
    exact ⟨eqEnd, belNow⟩
   ·replace c5 := Bool.eq_false_iff.mpr c5
    subst c5
    have H1 : ((lines_Bare.f a0).bind fun t118 => (if 0 ≤ (t118.size : Int) then (if (t118.size : Int) ≤ (a0.size : Int) then (if (Go.bits .and .i64 a1 2) = 0 then (if (Go.bits .and .i64 a1 4) = 0 then (if (Go.bits .and .i64 a1 8) = 0 then (if (Go.bits .and .i64 a1 1) = 0 then (if t118.size + (a0.extract t118.size a0.size).size ≤ 9223372036854775807 then (some (t118 ++ (a0.extract t118.size a0.size))) else (none)) else ((intern_lower.f t118).bind fun t119 => (if t119.size + (a0.extract t118.size a0.size).size ≤ 9223372036854775807 then (some (t119 ++ (a0.extract t118.size a0.size))) else (none)))) else ((strings_TrimRight.f t118 (⟨#[9, 11, 12, 13, 32]⟩ : ByteArray)).bind fun t120 => (if (Go.bits .and .i64 a1 1) = 0 then (if t120.size + (a0.extract t118.size a0.size).size ≤ 9223372036854775807 then (some (t120 ++ (a0.extract t118.size a0.size))) else (none)) else ((intern_lower.f t120).bind fun t121 => (if t121.size + (a0.extract t118.size a0.size).size ≤ 9223372036854775807 then (some (t121 ++ (a0.extract t118.size a0.size))) else (none)))))) else ((intern_amount.f kj2 t118).bind fun t122 => (if (Go.bits .and .i64 a1 1) = 0 then (if t122.size + (a0.extract t118.size a0.size).size ≤ 9223372036854775807 then (some (t122 ++ (a0.extract t118.size a0.size))) else (none)) else ((intern_lower.f t122).bind fun t123 => (if t123.size + (a0.extract t118.size a0.size).size ≤ 9223372036854775807 then (some (t123 ++ (a0.extract t118.size a0.size))) else (none)))))) else ((intern_without.f kj2 t118).bind fun t124 => (if (Go.bits .and .i64 a1 1) = 0 then (if t124.size + (a0.extract t118.size a0.size).size ≤ 9223372036854775807 then (some (t124 ++ (a0.extract t118.size a0.size))) else (none)) else ((intern_lower.f t124).bind fun t125 => (if t125.size + (a0.extract t118.size a0.size).size ≤ 9223372036854775807 then (some (t125 ++ (a0.extract t118.size a0.size))) else (none)))))) else (none)) else (none))) = some r := by rw [if_neg (show ¬ (false = true) by decide)] at H; exact H
    clear H
    have H := H1
    clear H1
    replace H := Option.bind_eq_some_iff.mp H
    obtain ⟨t118, A60, H⟩ := H
    replace H : (if 0 ≤ (t118.size : Int) then (if (t118.size : Int) ≤ (a0.size : Int) then (if (Go.bits .and .i64 a1 2) = 0 then (if (Go.bits .and .i64 a1 4) = 0 then (if (Go.bits .and .i64 a1 8) = 0 then (if (Go.bits .and .i64 a1 1) = 0 then (if t118.size + (a0.extract t118.size a0.size).size ≤ 9223372036854775807 then (some (t118 ++ (a0.extract t118.size a0.size))) else (none)) else ((intern_lower.f t118).bind fun t119 => (if t119.size + (a0.extract t118.size a0.size).size ≤ 9223372036854775807 then (some (t119 ++ (a0.extract t118.size a0.size))) else (none)))) else ((strings_TrimRight.f t118 (⟨#[9, 11, 12, 13, 32]⟩ : ByteArray)).bind fun t120 => (if (Go.bits .and .i64 a1 1) = 0 then (if t120.size + (a0.extract t118.size a0.size).size ≤ 9223372036854775807 then (some (t120 ++ (a0.extract t118.size a0.size))) else (none)) else ((intern_lower.f t120).bind fun t121 => (if t121.size + (a0.extract t118.size a0.size).size ≤ 9223372036854775807 then (some (t121 ++ (a0.extract t118.size a0.size))) else (none)))))) else ((intern_amount.f kj2 t118).bind fun t122 => (if (Go.bits .and .i64 a1 1) = 0 then (if t122.size + (a0.extract t118.size a0.size).size ≤ 9223372036854775807 then (some (t122 ++ (a0.extract t118.size a0.size))) else (none)) else ((intern_lower.f t122).bind fun t123 => (if t123.size + (a0.extract t118.size a0.size).size ≤ 9223372036854775807 then (some (t123 ++ (a0.extract t118.size a0.size))) else (none)))))) else ((intern_without.f kj2 t118).bind fun t124 => (if (Go.bits .and .i64 a1 1) = 0 then (if t124.size + (a0.extract t118.size a0.size).size ≤ 9223372036854775807 then (some (t124 ++ (a0.extract t118.size a0.size))) else (none)) else ((intern_lower.f t124).bind fun t125 => (if t125.size + (a0.extract t118.size a0.size).size ≤ 9223372036854775807 then (some (t125 ++ (a0.extract t118.size a0.size))) else (none)))))) else (none)) else (none)) = some r := H
    have A6 := Aside0.mk A60
    clear A60
    by_cases c7 : 0 ≤ (t118.size : Int)
    ·rw [if_pos c7] at H
     have c7b0 := eq_true c7
     have c7b1 : decide (0 ≤ (t118.size : Int)) = true := decide_eq_true c7
     clear c7
     by_cases c8 : (t118.size : Int) ≤ (a0.size : Int)
     ·rw [if_pos c8] at H
      have c8b0 := eq_true c8
      have c8b1 : decide ((t118.size : Int) ≤ (a0.size : Int)) = true := decide_eq_true c8
      clear c8
      by_cases c9 : (Go.bits .and .i64 a1 2) = 0
      ·rw [if_pos c9] at H
       have c9b0 : ((Go.bits .and .i64 a1 2) == 0) = true := beq_iff_eq.mpr c9
       have c9b1 : ((Go.bits .and .i64 a1 2) != 0) = false := bne_eq_false_iff_eq.mpr c9
       clear c9
       by_cases c10 : (Go.bits .and .i64 a1 4) = 0
       ·rw [if_pos c10] at H
        have c10b0 : ((Go.bits .and .i64 a1 4) == 0) = true := beq_iff_eq.mpr c10
        have c10b1 : ((Go.bits .and .i64 a1 4) != 0) = false := bne_eq_false_iff_eq.mpr c10
        clear c10
        by_cases c11 : (Go.bits .and .i64 a1 8) = 0
        ·rw [if_pos c11] at H
         have c11b0 : ((Go.bits .and .i64 a1 8) == 0) = true := beq_iff_eq.mpr c11
         have c11b1 : ((Go.bits .and .i64 a1 8) != 0) = false := bne_eq_false_iff_eq.mpr c11
         clear c11
         by_cases c12 : (Go.bits .and .i64 a1 1) = 0
         ·rw [if_pos c12] at H
          have c12b0 : ((Go.bits .and .i64 a1 1) == 0) = true := beq_iff_eq.mpr c12
          have c12b1 : ((Go.bits .and .i64 a1 1) != 0) = false := bne_eq_false_iff_eq.mpr c12
          clear c12
          by_cases c13 : t118.size + (a0.extract t118.size a0.size).size ≤ 9223372036854775807
          ·rw [if_pos c13] at H
           have c13b0 := eq_true c13
           have c13b1 : decide (t118.size + (a0.extract t118.size a0.size).size ≤ 9223372036854775807) = true := decide_eq_true c13
           try have c13b2 : (9223372036854775807 < t118.size + (a0.extract t118.size a0.size).size) = False := eq_false (Nat.not_lt.2 c13)
           try (have c13b3 := c13b2; simp only [ByteArray.size_extract, Nat.sub_zero] at c13b3)
           obtain rfl := Option.some.inj H
           go_wp2_with (first | ((with_reducible refine gate_callee (f := 18) rfl ?_); refine goesL_ (some 15) rfl rfl Tryd.func18 (by kernel_rfl) rfl #[.string a0] rfl argsOk ?_; (with_reducible refine (lines_Bare.calls a0 t118 _ A6.out).mono ?_); rintro e w' ⟨rfl, ⟨nd, rfl⟩⟩; refine ⟨_, rfl, ?_⟩))
           go_ret
           exact ⟨eqEnd, belNow⟩
          ·rw [if_neg c13] at H
           exact absurd H (by simp)
         ·rw [if_neg c12] at H
          have c12b0 : ((Go.bits .and .i64 a1 1) == 0) = false := beq_eq_false_iff_ne.mpr c12
          have c12b1 : ((Go.bits .and .i64 a1 1) != 0) = true := bne_iff_ne.mpr c12
          replace H := Option.bind_eq_some_iff.mp H
          obtain ⟨t119, A140, H⟩ := H
          replace H : (if t119.size + (a0.extract t118.size a0.size).size ≤ 9223372036854775807 then (some (t119 ++ (a0.extract t118.size a0.size))) else (none)) = some r := H
          have A14 := Aside0.mk A140
          clear A140
          by_cases c15 : t119.size + (a0.extract t118.size a0.size).size ≤ 9223372036854775807
          ·rw [if_pos c15] at H
           have c15b0 := eq_true c15
           have c15b1 : decide (t119.size + (a0.extract t118.size a0.size).size ≤ 9223372036854775807) = true := decide_eq_true c15
           try have c15b2 : (9223372036854775807 < t119.size + (a0.extract t118.size a0.size).size) = False := eq_false (Nat.not_lt.2 c15)
           try (have c15b3 := c15b2; simp only [ByteArray.size_extract, Nat.sub_zero] at c15b3)
           obtain rfl := Option.some.inj H
           go_wp2_with (first | ((with_reducible refine gate_callee (f := 18) rfl ?_); refine goesL_ (some 15) rfl rfl Tryd.func18 (by kernel_rfl) rfl #[.string a0] rfl argsOk ?_; (with_reducible refine (lines_Bare.calls a0 t118 _ A6.out).mono ?_); rintro e w' ⟨rfl, ⟨nd, rfl⟩⟩; refine ⟨_, rfl, ?_⟩) | ((with_reducible refine gate_callee (f := 22) rfl ?_); refine goesL_ (some 42) rfl rfl Tryd.func22 (by kernel_rfl) rfl #[.string t118] rfl argsOk ?_; (with_reducible refine (intern_lower.calls t118 t119 _ A14.out).mono ?_); rintro e w16 ⟨rfl, hb⟩; refine ⟨_, rfl, ?_⟩; have n0_ := Aside0.mk (below_step belNow hb); clear HB; have HB := n0_; clear n0_; (try clear hb); (try clear hb2); (try clear hk); (try clear hi)))
           go_ret
           exact ⟨eqEnd, belNow⟩
          ·rw [if_neg c15] at H
           exact absurd H (by simp)
        ·rw [if_neg c11] at H
         have c11b0 : ((Go.bits .and .i64 a1 8) == 0) = false := beq_eq_false_iff_ne.mpr c11
         have c11b1 : ((Go.bits .and .i64 a1 8) != 0) = true := bne_iff_ne.mpr c11
         replace H := Option.bind_eq_some_iff.mp H
         obtain ⟨t120, A170, H⟩ := H
         replace H : (if (Go.bits .and .i64 a1 1) = 0 then (if t120.size + (a0.extract t118.size a0.size).size ≤ 9223372036854775807 then (some (t120 ++ (a0.extract t118.size a0.size))) else (none)) else ((intern_lower.f t120).bind fun t121 => (if t121.size + (a0.extract t118.size a0.size).size ≤ 9223372036854775807 then (some (t121 ++ (a0.extract t118.size a0.size))) else (none)))) = some r := H
         have A17 := Aside0.mk A170
         clear A170
         by_cases c18 : (Go.bits .and .i64 a1 1) = 0
         ·rw [if_pos c18] at H
          have c18b0 : ((Go.bits .and .i64 a1 1) == 0) = true := beq_iff_eq.mpr c18
          have c18b1 : ((Go.bits .and .i64 a1 1) != 0) = false := bne_eq_false_iff_eq.mpr c18
          clear c18
          by_cases c19 : t120.size + (a0.extract t118.size a0.size).size ≤ 9223372036854775807
          ·rw [if_pos c19] at H
           have c19b0 := eq_true c19
           have c19b1 : decide (t120.size + (a0.extract t118.size a0.size).size ≤ 9223372036854775807) = true := decide_eq_true c19
           try have c19b2 : (9223372036854775807 < t120.size + (a0.extract t118.size a0.size).size) = False := eq_false (Nat.not_lt.2 c19)
           try (have c19b3 := c19b2; simp only [ByteArray.size_extract, Nat.sub_zero] at c19b3)
           obtain rfl := Option.some.inj H
           go_wp2_with (first | ((with_reducible refine gate_callee (f := 18) rfl ?_); refine goesL_ (some 15) rfl rfl Tryd.func18 (by kernel_rfl) rfl #[.string a0] rfl argsOk ?_; (with_reducible refine (lines_Bare.calls a0 t118 _ A6.out).mono ?_); rintro e w' ⟨rfl, ⟨nd, rfl⟩⟩; refine ⟨_, rfl, ?_⟩) | ((with_reducible refine gate_callee (f := 21) rfl ?_); refine goesL_ (some 37) rfl rfl Tryd.func21 (by kernel_rfl) rfl #[.string t118, .string (⟨#[9, 11, 12, 13, 32]⟩ : ByteArray)] rfl argsOk ?_; (with_reducible refine (strings_TrimRight.calls t118 (⟨#[9, 11, 12, 13, 32]⟩ : ByteArray) t120 _ A17.out).mono ?_); rintro e w20 ⟨rfl, hb⟩; refine ⟨_, rfl, ?_⟩; have n0_ := Aside0.mk (below_step belNow hb); clear HB; have HB := n0_; clear n0_; (try clear hb); (try clear hb2); (try clear hk); (try clear hi)))
           go_ret
           exact ⟨eqEnd, belNow⟩
          ·rw [if_neg c19] at H
           exact absurd H (by simp)
         ·rw [if_neg c18] at H
          have c18b0 : ((Go.bits .and .i64 a1 1) == 0) = false := beq_eq_false_iff_ne.mpr c18
          have c18b1 : ((Go.bits .and .i64 a1 1) != 0) = true := bne_iff_ne.mpr c18
          replace H := Option.bind_eq_some_iff.mp H
          obtain ⟨t121, A210, H⟩ := H
          replace H : (if t121.size + (a0.extract t118.size a0.size).size ≤ 9223372036854775807 then (some (t121 ++ (a0.extract t118.size a0.size))) else (none)) = some r := H
          have A21 := Aside0.mk A210
          clear A210
          by_cases c22 : t121.size + (a0.extract t118.size a0.size).size ≤ 9223372036854775807
          ·rw [if_pos c22] at H
           have c22b0 := eq_true c22
           have c22b1 : decide (t121.size + (a0.extract t118.size a0.size).size ≤ 9223372036854775807) = true := decide_eq_true c22
           try have c22b2 : (9223372036854775807 < t121.size + (a0.extract t118.size a0.size).size) = False := eq_false (Nat.not_lt.2 c22)
           try (have c22b3 := c22b2; simp only [ByteArray.size_extract, Nat.sub_zero] at c22b3)
           obtain rfl := Option.some.inj H
           go_wp2_with (first | ((with_reducible refine gate_callee (f := 18) rfl ?_); refine goesL_ (some 15) rfl rfl Tryd.func18 (by kernel_rfl) rfl #[.string a0] rfl argsOk ?_; (with_reducible refine (lines_Bare.calls a0 t118 _ A6.out).mono ?_); rintro e w' ⟨rfl, ⟨nd, rfl⟩⟩; refine ⟨_, rfl, ?_⟩) | ((with_reducible refine gate_callee (f := 21) rfl ?_); refine goesL_ (some 37) rfl rfl Tryd.func21 (by kernel_rfl) rfl #[.string t118, .string (⟨#[9, 11, 12, 13, 32]⟩ : ByteArray)] rfl argsOk ?_; (with_reducible refine (strings_TrimRight.calls t118 (⟨#[9, 11, 12, 13, 32]⟩ : ByteArray) t120 _ A17.out).mono ?_); rintro e w23 ⟨rfl, hb⟩; refine ⟨_, rfl, ?_⟩; have n0_ := Aside0.mk (below_step belNow hb); clear HB; have HB := n0_; clear n0_; (try clear hb); (try clear hb2); (try clear hk); (try clear hi)) | ((with_reducible refine gate_callee (f := 22) rfl ?_); refine goesL_ (some 42) rfl rfl Tryd.func22 (by kernel_rfl) rfl #[.string t120] rfl argsOk ?_; (with_reducible refine (intern_lower.calls t120 t121 _ A21.out).mono ?_); rintro e w24 ⟨rfl, hb⟩; refine ⟨_, rfl, ?_⟩; have n0_ := Aside0.mk (below_step belNow hb); clear HB; have HB := n0_; clear n0_; (try clear hb); (try clear hb2); (try clear hk); (try clear hi)))
           go_ret
           exact ⟨eqEnd, belNow⟩
          ·rw [if_neg c22] at H
           exact absurd H (by simp)
       ·rw [if_neg c10] at H
        have c10b0 : ((Go.bits .and .i64 a1 4) == 0) = false := beq_eq_false_iff_ne.mpr c10
        have c10b1 : ((Go.bits .and .i64 a1 4) != 0) = true := bne_iff_ne.mpr c10
        replace H := Option.bind_eq_some_iff.mp H
        obtain ⟨t122, A250, H⟩ := H
        replace H : (if (Go.bits .and .i64 a1 1) = 0 then (if t122.size + (a0.extract t118.size a0.size).size ≤ 9223372036854775807 then (some (t122 ++ (a0.extract t118.size a0.size))) else (none)) else ((intern_lower.f t122).bind fun t123 => (if t123.size + (a0.extract t118.size a0.size).size ≤ 9223372036854775807 then (some (t123 ++ (a0.extract t118.size a0.size))) else (none)))) = some r := H
        have A25 := Aside0.mk A250
        clear A250
        by_cases c26 : (Go.bits .and .i64 a1 1) = 0
        ·rw [if_pos c26] at H
         have c26b0 : ((Go.bits .and .i64 a1 1) == 0) = true := beq_iff_eq.mpr c26
         have c26b1 : ((Go.bits .and .i64 a1 1) != 0) = false := bne_eq_false_iff_eq.mpr c26
         clear c26
         by_cases c27 : t122.size + (a0.extract t118.size a0.size).size ≤ 9223372036854775807
         ·rw [if_pos c27] at H
          have c27b0 := eq_true c27
          have c27b1 : decide (t122.size + (a0.extract t118.size a0.size).size ≤ 9223372036854775807) = true := decide_eq_true c27
          try have c27b2 : (9223372036854775807 < t122.size + (a0.extract t118.size a0.size).size) = False := eq_false (Nat.not_lt.2 c27)
          try (have c27b3 := c27b2; simp only [ByteArray.size_extract, Nat.sub_zero] at c27b3)
          obtain rfl := Option.some.inj H
          go_wp2_with (first | ((with_reducible refine gate_callee (f := 18) rfl ?_); refine goesL_ (some 15) rfl rfl Tryd.func18 (by kernel_rfl) rfl #[.string a0] rfl argsOk ?_; (with_reducible refine (lines_Bare.calls a0 t118 _ A6.out).mono ?_); rintro e w' ⟨rfl, ⟨nd, rfl⟩⟩; refine ⟨_, rfl, ?_⟩) | ((with_reducible refine gate_callee (f := 20) rfl ?_); refine goesL_ (some 31) rfl rfl Tryd.func20 (by kernel_rfl) rfl #[.string t118] rfl argsOk ?_; (with_reducible refine (intern_amount.calls kj2 t118 t122 _ A25.out).mono ?_); rintro e w28 ⟨rfl, hb⟩; refine ⟨_, rfl, ?_⟩; have n0_ := Aside0.mk (below_step belNow hb); clear HB; have HB := n0_; clear n0_; (try clear hb); (try clear hb2); (try clear hk); (try clear hi)))
          go_ret
          exact ⟨eqEnd, belNow⟩
         ·rw [if_neg c27] at H
          exact absurd H (by simp)
        ·rw [if_neg c26] at H
         have c26b0 : ((Go.bits .and .i64 a1 1) == 0) = false := beq_eq_false_iff_ne.mpr c26
         have c26b1 : ((Go.bits .and .i64 a1 1) != 0) = true := bne_iff_ne.mpr c26
         replace H := Option.bind_eq_some_iff.mp H
         obtain ⟨t123, A290, H⟩ := H
         replace H : (if t123.size + (a0.extract t118.size a0.size).size ≤ 9223372036854775807 then (some (t123 ++ (a0.extract t118.size a0.size))) else (none)) = some r := H
         have A29 := Aside0.mk A290
         clear A290
         by_cases c30 : t123.size + (a0.extract t118.size a0.size).size ≤ 9223372036854775807
         ·rw [if_pos c30] at H
          have c30b0 := eq_true c30
          have c30b1 : decide (t123.size + (a0.extract t118.size a0.size).size ≤ 9223372036854775807) = true := decide_eq_true c30
          try have c30b2 : (9223372036854775807 < t123.size + (a0.extract t118.size a0.size).size) = False := eq_false (Nat.not_lt.2 c30)
          try (have c30b3 := c30b2; simp only [ByteArray.size_extract, Nat.sub_zero] at c30b3)
          obtain rfl := Option.some.inj H
          go_wp2_with (first | ((with_reducible refine gate_callee (f := 18) rfl ?_); refine goesL_ (some 15) rfl rfl Tryd.func18 (by kernel_rfl) rfl #[.string a0] rfl argsOk ?_; (with_reducible refine (lines_Bare.calls a0 t118 _ A6.out).mono ?_); rintro e w' ⟨rfl, ⟨nd, rfl⟩⟩; refine ⟨_, rfl, ?_⟩) | ((with_reducible refine gate_callee (f := 20) rfl ?_); refine goesL_ (some 31) rfl rfl Tryd.func20 (by kernel_rfl) rfl #[.string t118] rfl argsOk ?_; (with_reducible refine (intern_amount.calls kj2 t118 t122 _ A25.out).mono ?_); rintro e w31 ⟨rfl, hb⟩; refine ⟨_, rfl, ?_⟩; have n0_ := Aside0.mk (below_step belNow hb); clear HB; have HB := n0_; clear n0_; (try clear hb); (try clear hb2); (try clear hk); (try clear hi)) | ((with_reducible refine gate_callee (f := 22) rfl ?_); refine goesL_ (some 42) rfl rfl Tryd.func22 (by kernel_rfl) rfl #[.string t122] rfl argsOk ?_; (with_reducible refine (intern_lower.calls t122 t123 _ A29.out).mono ?_); rintro e w32 ⟨rfl, hb⟩; refine ⟨_, rfl, ?_⟩; have n0_ := Aside0.mk (below_step belNow hb); clear HB; have HB := n0_; clear n0_; (try clear hb); (try clear hb2); (try clear hk); (try clear hi)))
          go_ret
          exact ⟨eqEnd, belNow⟩
         ·rw [if_neg c30] at H
          exact absurd H (by simp)
      ·rw [if_neg c9] at H
       have c9b0 : ((Go.bits .and .i64 a1 2) == 0) = false := beq_eq_false_iff_ne.mpr c9
       have c9b1 : ((Go.bits .and .i64 a1 2) != 0) = true := bne_iff_ne.mpr c9
       replace H := Option.bind_eq_some_iff.mp H
       obtain ⟨t124, A330, H⟩ := H
       replace H : (if (Go.bits .and .i64 a1 1) = 0 then (if t124.size + (a0.extract t118.size a0.size).size ≤ 9223372036854775807 then (some (t124 ++ (a0.extract t118.size a0.size))) else (none)) else ((intern_lower.f t124).bind fun t125 => (if t125.size + (a0.extract t118.size a0.size).size ≤ 9223372036854775807 then (some (t125 ++ (a0.extract t118.size a0.size))) else (none)))) = some r := H
       have A33 := Aside0.mk A330
       clear A330
       by_cases c34 : (Go.bits .and .i64 a1 1) = 0
       ·rw [if_pos c34] at H
        have c34b0 : ((Go.bits .and .i64 a1 1) == 0) = true := beq_iff_eq.mpr c34
        have c34b1 : ((Go.bits .and .i64 a1 1) != 0) = false := bne_eq_false_iff_eq.mpr c34
        clear c34
        by_cases c35 : t124.size + (a0.extract t118.size a0.size).size ≤ 9223372036854775807
        ·rw [if_pos c35] at H
         have c35b0 := eq_true c35
         have c35b1 : decide (t124.size + (a0.extract t118.size a0.size).size ≤ 9223372036854775807) = true := decide_eq_true c35
         try have c35b2 : (9223372036854775807 < t124.size + (a0.extract t118.size a0.size).size) = False := eq_false (Nat.not_lt.2 c35)
         try (have c35b3 := c35b2; simp only [ByteArray.size_extract, Nat.sub_zero] at c35b3)
         obtain rfl := Option.some.inj H
         go_wp2_with (first | ((with_reducible refine gate_callee (f := 18) rfl ?_); refine goesL_ (some 15) rfl rfl Tryd.func18 (by kernel_rfl) rfl #[.string a0] rfl argsOk ?_; (with_reducible refine (lines_Bare.calls a0 t118 _ A6.out).mono ?_); rintro e w' ⟨rfl, ⟨nd, rfl⟩⟩; refine ⟨_, rfl, ?_⟩) | ((with_reducible refine gate_callee (f := 19) rfl ?_); refine goesL_ (some 25) rfl rfl Tryd.func19 (by kernel_rfl) rfl #[.string t118] rfl argsOk ?_; (with_reducible refine (intern_without.calls kj2 t118 t124 _ A33.out).mono ?_); rintro e w36 ⟨rfl, hb⟩; refine ⟨_, rfl, ?_⟩; have n0_ := Aside0.mk (below_step belNow hb); clear HB; have HB := n0_; clear n0_; (try clear hb); (try clear hb2); (try clear hk); (try clear hi)))
         go_ret
         exact ⟨eqEnd, belNow⟩
        ·rw [if_neg c35] at H
         exact absurd H (by simp)
       ·rw [if_neg c34] at H
        have c34b0 : ((Go.bits .and .i64 a1 1) == 0) = false := beq_eq_false_iff_ne.mpr c34
        have c34b1 : ((Go.bits .and .i64 a1 1) != 0) = true := bne_iff_ne.mpr c34
        replace H := Option.bind_eq_some_iff.mp H
        obtain ⟨t125, A370, H⟩ := H
        replace H : (if t125.size + (a0.extract t118.size a0.size).size ≤ 9223372036854775807 then (some (t125 ++ (a0.extract t118.size a0.size))) else (none)) = some r := H
        have A37 := Aside0.mk A370
        clear A370
        by_cases c38 : t125.size + (a0.extract t118.size a0.size).size ≤ 9223372036854775807
        ·rw [if_pos c38] at H
         have c38b0 := eq_true c38
         have c38b1 : decide (t125.size + (a0.extract t118.size a0.size).size ≤ 9223372036854775807) = true := decide_eq_true c38
         try have c38b2 : (9223372036854775807 < t125.size + (a0.extract t118.size a0.size).size) = False := eq_false (Nat.not_lt.2 c38)
         try (have c38b3 := c38b2; simp only [ByteArray.size_extract, Nat.sub_zero] at c38b3)
         obtain rfl := Option.some.inj H
         go_wp2_with (first | ((with_reducible refine gate_callee (f := 18) rfl ?_); refine goesL_ (some 15) rfl rfl Tryd.func18 (by kernel_rfl) rfl #[.string a0] rfl argsOk ?_; (with_reducible refine (lines_Bare.calls a0 t118 _ A6.out).mono ?_); rintro e w' ⟨rfl, ⟨nd, rfl⟩⟩; refine ⟨_, rfl, ?_⟩) | ((with_reducible refine gate_callee (f := 19) rfl ?_); refine goesL_ (some 25) rfl rfl Tryd.func19 (by kernel_rfl) rfl #[.string t118] rfl argsOk ?_; (with_reducible refine (intern_without.calls kj2 t118 t124 _ A33.out).mono ?_); rintro e w39 ⟨rfl, hb⟩; refine ⟨_, rfl, ?_⟩; have n0_ := Aside0.mk (below_step belNow hb); clear HB; have HB := n0_; clear n0_; (try clear hb); (try clear hb2); (try clear hk); (try clear hi)) | ((with_reducible refine gate_callee (f := 22) rfl ?_); refine goesL_ (some 42) rfl rfl Tryd.func22 (by kernel_rfl) rfl #[.string t124] rfl argsOk ?_; (with_reducible refine (intern_lower.calls t124 t125 _ A37.out).mono ?_); rintro e w40 ⟨rfl, hb⟩; refine ⟨_, rfl, ?_⟩; have n0_ := Aside0.mk (below_step belNow hb); clear HB; have HB := n0_; clear n0_; (try clear hb); (try clear hb2); (try clear hk); (try clear hi)))
         go_ret
         exact ⟨eqEnd, belNow⟩
        ·rw [if_neg c38] at H
         exact absurd H (by simp)
     ·rw [if_neg c8] at H
      exact absurd H (by simp)
    ·rw [if_neg c7] at H
     exact absurd H (by simp)
def selvageref01_Whole.f (a0 : ByteArray) : Option (Bool) := if (a0.size : Int) > 0 then (if 0 ≤ (wrap64 ((a0.size : Int) - 1)) then (if (wrap64 ((a0.size : Int) - 1)) < (a0.size : Int) then (some ((bt a0 (wrap64 ((a0.size : Int) - 1))) == 10)) else (none)) else (none)) else (some false)
set_option maxHeartbeats 8000000 in
set_option maxRecDepth 100000 in
theorem selvageref01_Whole.calls (a0 : ByteArray) (r : Bool) (w : World) (h : selvageref01_Whole.f a0 = some r) :
  Calls Tryd.prog 35 #[.string a0] w fun e w' => e = .returned (.bool r) ∧ Drawn0 w w' := by
 have H : (if (a0.size : Int) > 0 then (if 0 ≤ (wrap64 ((a0.size : Int) - 1)) then (if (wrap64 ((a0.size : Int) - 1)) < (a0.size : Int) then (some ((bt a0 (wrap64 ((a0.size : Int) - 1))) == 10)) else (none)) else (none)) else (some false)) = some r := h
 clear h
 by_cases c2 : (a0.size : Int) > 0
 ·rw [if_pos c2] at H
  have c2b0 : decide (0 < (a0.size : Int)) = true := decide_eq_true c2
  have c2b1 : decide (0 < a0.size) = true := decide_eq_true (by omega)
  clear c2
  obtain ⟨ji3, hji3⟩ : ∃ j_ : Int, (wrap64 ((a0.size : Int) - 1)) = j_ := ⟨_, rfl⟩
  replace H : (if 0 ≤ (ji3) then (if (ji3) < (a0.size : Int) then (some ((bt a0 (ji3)) == 10)) else (none)) else (none)) = some r := by first | (rw [hji3] at H; exact H) | (simp only [hji3] at H ⊢; exact H)
  have hji3w : (IntKind.i64.wrap ((a0.size : Int) - 1)) = ji3 := (i64_w _).trans hji3
  by_cases c4 : 0 ≤ (ji3)
  ·rw [if_pos c4] at H
   have c4b0 : decide (0 ≤ (ji3)) = true := decide_eq_true c4
   clear c4
   by_cases c5 : (ji3) < (a0.size : Int)
   ·rw [if_pos c5] at H
    have c5b0 : decide ((ji3) < (a0.size : Int)) = true := decide_eq_true c5
    clear c5
    obtain rfl := Option.some.inj H
    have p6 : 0 ≤ ((ji3) : Int) := ofDec
    have q6 : (ji3) < (a0.size : Int) := ofDec
    have hx6 := bt_at a0 (ji3)
    replace p6 := eq_true p6
    replace q6 := eq_true q6
    go_enter Tryd.func35, Tryd.ntmps35
    go_wp2
    go_ret
    exact ⟨by first | rfl | (simp; done) | (simp only [← hji3] <;> (first | rfl | simp)) | (simp [*]; done) | (simp [*] <;> rfl) | (simp only [i64_w, i32_w, u8_w]; first | rfl | (simp [errW_none, errW_some] <;> rfl)) | (simp only [bne_nil, beq_nil]; first | rfl | (simp <;> rfl)), drawnNow⟩
   ·rw [if_neg c5] at H
    exact absurd H (by simp)
  ·rw [if_neg c4] at H
   exact absurd H (by simp)
 ·rw [if_neg c2] at H
  have c2b0 : decide (0 < (a0.size : Int)) = false := decide_eq_false c2
  have c2b1 : decide (0 < a0.size) = false := decide_eq_false (by omega)
  clear c2
  obtain rfl := Option.some.inj H
  go_enter Tryd.func35, Tryd.ntmps35
  go_wp2
  go_ret
  exact ⟨eqFin, drawnNow⟩
def selvageref01_Bare.f (a0 : ByteArray) : Option (ByteArray) := (selvageref01_Whole.f a0).bind fun t126 => (if t126 = true then (if 0 ≤ (wrap64 ((a0.size : Int) - 1)) then (if (wrap64 ((a0.size : Int) - 1)) ≤ (a0.size : Int) then (some (a0.extract 0 ((wrap64 ((a0.size : Int) - 1)) : Int).toNat)) else (none)) else (none)) else (some a0))
set_option maxHeartbeats 8000000 in
set_option maxRecDepth 100000 in
theorem selvageref01_Bare.calls (a0 : ByteArray) (r : ByteArray) (w : World) (h : selvageref01_Bare.f a0 = some r) :
  Calls Tryd.prog 23 #[.string a0] w fun e w' => e = .returned (.string r) ∧ Drawn0 w w' := by
 have H : ((selvageref01_Whole.f a0).bind fun t126 => (if t126 = true then (if 0 ≤ (wrap64 ((a0.size : Int) - 1)) then (if (wrap64 ((a0.size : Int) - 1)) ≤ (a0.size : Int) then (some (a0.extract 0 ((wrap64 ((a0.size : Int) - 1)) : Int).toNat)) else (none)) else (none)) else (some a0))) = some r := h
 clear h
 replace H := Option.bind_eq_some_iff.mp H
 obtain ⟨t126, A20, H⟩ := H
 replace H : (if t126 = true then (if 0 ≤ (wrap64 ((a0.size : Int) - 1)) then (if (wrap64 ((a0.size : Int) - 1)) ≤ (a0.size : Int) then (some (a0.extract 0 ((wrap64 ((a0.size : Int) - 1)) : Int).toNat)) else (none)) else (none)) else (some a0)) = some r := H
 have A2 := Aside0.mk A20
 clear A20
 by_cases c3 : t126 = true
 ·subst c3
  have H1 : (if 0 ≤ (wrap64 ((a0.size : Int) - 1)) then (if (wrap64 ((a0.size : Int) - 1)) ≤ (a0.size : Int) then (some (a0.extract 0 ((wrap64 ((a0.size : Int) - 1)) : Int).toNat)) else (none)) else (none)) = some r := by rw [if_pos rfl] at H; exact H
  clear H
  have H := H1
  clear H1
  obtain ⟨ji4, hji4⟩ : ∃ j_ : Int, (wrap64 ((a0.size : Int) - 1)) = j_ := ⟨_, rfl⟩
  replace H : (if 0 ≤ (ji4) then (if (ji4) ≤ (a0.size : Int) then (some (a0.extract 0 ((ji4) : Int).toNat)) else (none)) else (none)) = some r := by first | (rw [hji4] at H; exact H) | (simp only [hji4] at H ⊢; exact H)
  (try rw [hji4] at A2)
  have hji4w : (IntKind.i64.wrap ((a0.size : Int) - 1)) = ji4 := (i64_w _).trans hji4
  by_cases c5 : 0 ≤ (ji4)
  ·rw [if_pos c5] at H
   have c5b0 := eq_true c5
   have c5b1 : decide (0 ≤ (ji4)) = true := decide_eq_true c5
   clear c5
   by_cases c6 : (ji4) ≤ (a0.size : Int)
   ·rw [if_pos c6] at H
    have c6b0 := eq_true c6
    have c6b1 : decide ((ji4) ≤ (a0.size : Int)) = true := decide_eq_true c6
    clear c6
    obtain rfl := Option.some.inj H
    go_enter Tryd.func23, Tryd.ntmps23
    go_wp2_with (first | ((with_reducible refine gate_callee (f := 35) rfl ?_); refine goesL_ (some 4) rfl rfl Tryd.func35 (by kernel_rfl) rfl #[.string a0] rfl argsOk ?_; (with_reducible refine (selvageref01_Whole.calls a0 true _ A2.out).mono ?_); rintro e w' ⟨rfl, ⟨nd, rfl⟩⟩; refine ⟨_, rfl, ?_⟩))
    go_ret
    exact ⟨by first | rfl | (simp; done) | (simp only [← hji4] <;> (first | rfl | simp)) | (simp [*]; done) | (simp [*] <;> rfl) | (simp only [i64_w, i32_w, u8_w]; first | rfl | (simp [errW_none, errW_some] <;> rfl)) | (simp only [bne_nil, beq_nil]; first | rfl | (simp <;> rfl)), drawnNow⟩
   ·rw [if_neg c6] at H
    exact absurd H (by simp)
  ·rw [if_neg c5] at H
   exact absurd H (by simp)
 ·replace c3 := Bool.eq_false_iff.mpr c3
  subst c3
  have H1 : (some a0) = some r := by rw [if_neg (show ¬ (false = true) by decide)] at H; exact H
  clear H
  have H := H1
  clear H1
  obtain rfl := Option.some.inj H
  go_enter Tryd.func23, Tryd.ntmps23
  go_wp2_with (first | ((with_reducible refine gate_callee (f := 35) rfl ?_); refine goesL_ (some 4) rfl rfl Tryd.func35 (by kernel_rfl) rfl #[.string a0] rfl argsOk ?_; (with_reducible refine (selvageref01_Whole.calls a0 false _ A2.out).mono ?_); rintro e w' ⟨rfl, ⟨nd, rfl⟩⟩; refine ⟨_, rfl, ?_⟩))
  go_ret
  exact ⟨eqFin, drawnNow⟩
end Go.Proofs.YtpfhgaaphaalgaaDoor.Pp
