import Derived.Test.YtkoagpnoaibdjaaESt
import Derived.Test.YtkoagpnoaibdjaaPp0
namespace Go.Proofs.Ytkoagpnoaibdjaa.Pp
open Go.RowKit Go.Proofs.Ytkoagpnoaibdjaa.Ext Go.Proofs.YtkoagpnoaibdjaaW.PrintWords Go.Proofs.YtkoagpnoaibdjaaW.PrintLast Go.Proofs.YtkoagpnoaibdjaaW.PrintMore
attribute [local go_sem] max2_int min2_int max_two min_two max_three min_three max_four min_four   -- for this text's walks alone
set_option linter.unusedVariables false
set_option linter.unusedSimpArgs false
def selvageref17_Stated.f (a0_0 : Int) (a0_1 : Int) (a0_2 : Int) (a0_3 : Int) (a0_4 : ByteArray) (l0_5 : List (S72)) : Option (Int) := if a0_1 = 0 then (some a0_0) else (some (wrap64 (a0_0 - 1)))
set_option maxHeartbeats 8000000 in
set_option maxRecDepth 100000 in
theorem selvageref17_Stated.calls (a0_0 : Int) (a0_1 : Int) (a0_2 : Int) (a0_3 : Int) (a0_4 : ByteArray) (A0_5 : Option Addr) (c0_5 : Nat) (l0_5 : List (S72)) (r : Int) (w : World) (hr0_5 : Kd.C k72 w A0_5 l0_5.length l0_5) (hc0_5 : l0_5.length ≤ c0_5) (h : selvageref17_Stated.f a0_0 a0_1 a0_2 a0_3 a0_4 l0_5 = some r) :
  Calls Try.prog 60 #[.agg #[.int .i64 a0_0, .int .i64 a0_1, .int .i64 a0_2, .int .i64 a0_3, .string a0_4, .slice A0_5 l0_5.length c0_5]] w fun e w' => e = .returned (.int .i64 r) ∧ Below w.heap.size w w' := by
 have hu41 := Try.underlying41
 have HR0_5 := Aside0.mk hr0_5
 have HC0_5 := Aside0.mk hc0_5
 clear hr0_5 hc0_5
 have HB := Aside0.mk (Below.refl w.heap.size w)
 have H := h
 clear h
 unfold selvageref17_Stated.f at H
 replace H := itEn H
 rcases H with ⟨c2, c2b0, c2b1, H⟩ | ⟨-, c2b0, c2b1, H⟩
 ·obtain rfl := Option.some.inj H
  go_enter Try.func60, Try.ntmps60
  go_wp2_with (first | ((with_reducible refine gate_dst (N := 1) rfl ?_); refine boxEv (N := 1) #[.int .i64 a0_0, .int .i64 a0_1, .int .i64 a0_2, .int .i64 a0_3, .string a0_4, .slice A0_5 l0_5.length c0_5] 41 ?_; intro gb458 hg w5 hbox hb; have BK458 := Aside0.mk hbox; have GW458 := gwN HB hg; have GE458 := GW458; replace HB := hbD HB hb; clear hb hbox hg; obtain ⟨hcz6_0, hcz6_1, hcz6_2, hcz6_3, hcz6_4, hcz6_5, hfz6_0, hfz6_1, hfz6_2, hfz6_3, hfz6_4, hfz6_5⟩ := bcf6 (W := w5) BK458))
  go_ret
  exact ⟨eqEnd, belPut⟩
 obtain rfl := Option.some.inj H
 go_enter Try.func60, Try.ntmps60
 go_wp2_with (first | ((with_reducible refine gate_dst (N := 1) rfl ?_); refine boxEv (N := 1) #[.int .i64 a0_0, .int .i64 a0_1, .int .i64 a0_2, .int .i64 a0_3, .string a0_4, .slice A0_5 l0_5.length c0_5] 41 ?_; intro gb458 hg w3 hbox hb; have BK458 := Aside0.mk hbox; have GW458 := gwN HB hg; have GE458 := GW458; replace HB := hbD HB hb; clear hb hbox hg; obtain ⟨hcz4_0, hcz4_1, hcz4_2, hcz4_3, hcz4_4, hcz4_5, hfz4_0, hfz4_1, hfz4_2, hfz4_3, hfz4_4, hfz4_5⟩ := bcf6 (W := w3) BK458))
 go_ret
 exact ⟨eqEnd, belPut⟩
def selvageref17_add.j0 : Nat → Int → Int → Bool → Option (Int)
 | 0, _, _, _ => none
 | k + 1, x0, x1, x5 => if x5 = true then (some 9223372036854775807) else (if x1 < 0 then (if x0 < (wrap64 ((-9223372036854775808) - x1)) then (some (-9223372036854775808)) else (some (wrap64 (x0 + x1)))) else (some (wrap64 (x0 + x1))))
def selvageref17_add.f (k : Nat) (a0 : Int) (a1 : Int) : Option (Int) := if a1 > 0 then (selvageref17_add.j0 k a0 a1 (decide (a0 > (wrap64 (9223372036854775807 - a1))))) else (selvageref17_add.j0 k a0 a1 false)
theorem selvageref17_add.mono_l : ∀ k, (∀ y0 y1 y2, LeO (selvageref17_add.j0 k y0 y1 y2) (selvageref17_add.j0 (k + 1) y0 y1 y2))
 | 0 => fun _ _ _ r h => by simp [selvageref17_add.j0] at h
 | k + 1 => by
  have ih0 := selvageref17_add.mono_l k
  ·intro y0 y1 y2
   unfold selvageref17_add.j0
   repeat' first
   | (with_reducible exact ih0 _ _ _)
   | (with_reducible exact LeO.refl _)
   | (with_reducible exact LeO.none _)
   | (with_reducible refine LeO.ite ?_ ?_)
   | (with_reducible refine LeO.bind ?_ (fun _ => ?_))
   | exact ih0 _ _ _
   | exact LeO.none _
   | refine LeO.ite ?_ ?_
   | refine LeO.bind ?_ (fun _ => ?_)
theorem selvageref17_add.mono : ∀ a0 a1 k, LeO (selvageref17_add.f k a0 a1) (selvageref17_add.f (k + 1) a0 a1) := by
 intro a0 a1 k
 have ih0 := selvageref17_add.mono_l k
 unfold selvageref17_add.f
 repeat' first
   | (with_reducible exact ih0 _ _ _)
   | (with_reducible exact LeO.refl _)
   | (with_reducible exact LeO.none _)
   | (with_reducible refine LeO.ite ?_ ?_)
   | (with_reducible refine LeO.bind ?_ (fun _ => ?_))
   | exact ih0 _ _ _
   | exact LeO.none _
   | refine LeO.ite ?_ ?_
   | refine LeO.bind ?_ (fun _ => ?_)
set_option maxHeartbeats 8000000 in
set_option maxRecDepth 100000 in
theorem selvageref17_add.calls (k : Nat) (a0 : Int) (a1 : Int) (r : Int) (w : World) (h : selvageref17_add.f k a0 a1 = some r) :
  Calls Try.prog 70 #[.int .i64 a0, .int .i64 a1] w fun e w' => e = .returned (.int .i64 r) ∧ Drawn0 w w' := by
 have H := h
 clear h
 unfold selvageref17_add.f at H
 have HC3 := Aside0.mk H
 clear H
 go_enter Try.func70, Try.ntmps70
 go_upto_region 1 with (fail)
 go_cut [5] (fun v5 wc => ∃ (kq : Nat) (x5_2 : Bool), v5 = .bool x5_2 ∧ Aside0 (selvageref17_add.j0 kq a0 a1 x5_2 = some r) ∧ Aside0 (kq ≤ k) ∧ Drawn0 w wc)
 case first =>
  have H := HC3.out
  clear HC3
  replace H := itGn H
  rcases H with ⟨-, c4b0, H⟩ | ⟨-, c4b0, H⟩
  ·(first | rw [c4b0] | (simp only [i64_w, i32_w]; rw [c4b0]) | skip)
   have H' := Aside0.mk H
   clear H
   go_wp2
   go_meet
   case rel => exact ⟨_, (false), eqNow, H', ⟨by first | omega | exact Nat.le_refl _⟩, drawnNow⟩
  (first | rw [c4b0] | (simp only [i64_w, i32_w]; rw [c4b0]) | skip)
  have H' := Aside0.mk H
  clear H
  go_wp2
  go_meet
  case rel => exact ⟨_, (decide (a0 > (wrap64 (9223372036854775807 - a1)))), eqNow, H', ⟨by first | omega | exact Nat.le_refl _⟩, drawnNow⟩
 case rest =>
  clear HC3
  obtain ⟨kq, x5_2, rfl, HA, HJ2, ⟨mc2, rfl⟩⟩ := hcut
  cases kq with
  | zero => exact absurd HA.out (by simp [selvageref17_add.j0])
  | succ kj2 =>
   have H := HA.out
   clear HA
   simp only [selvageref17_add.j0] at H
   replace H := itB H
   rcases H with ⟨rfl, H⟩ | ⟨rfl, H⟩
   ·obtain rfl := Option.some.inj H
    go_wp2
    go_ret
    exact ⟨eqFin, drawnNow⟩
   replace H := itLn H
   rcases H with ⟨-, c6b0, H⟩ | ⟨-, c6b0, H⟩
   ·obtain rfl := Option.some.inj H
    go_wp2
    go_ret
    exact ⟨eqFin, drawnNow⟩
   replace H := itL H
   rcases H with ⟨-, c7b0, H⟩ | ⟨-, c7b0, H⟩
   ·obtain rfl := Option.some.inj H
    go_wp2
    go_ret
    exact ⟨eqFin, drawnNow⟩
   obtain rfl := Option.some.inj H
   go_wp2
   go_ret
   exact ⟨eqFin, drawnNow⟩
mutual
def selvageref17_at.j0 : Nat → List ByteArray → Int → List ByteArray → Bool → Option (Bool)
 | 0, _, _, _, _ => none
 | k + 1, x0, x1, x2, x18 => if x18 = true then (some false) else (selvageref17_at.l0 k x0 x1 x2 0)
def selvageref17_at.l0 : Nat → List ByteArray → Int → List ByteArray → Int → Option (Bool)
 | 0, _, _, _, _ => none
 | k + 1, x0, x1, x2, x7 => if x7 < (x2.length : Int) then (if 0 ≤ (wrap64 (x1 + x7)) then (if (wrap64 (x1 + x7)) < (x0.length : Int) then (if 0 ≤ x7 then (if (rdOf ByteArray.empty x0 (wrap64 (x1 + x7))).toList = (rdOf ByteArray.empty x2 x7).toList then (selvageref17_at.l0 k x0 x1 x2 (wrap64 (x7 + 1))) else (some false)) else (none)) else (none)) else (none)) else (some true)
end
def selvageref17_at.f (k : Nat) (l0 : List ByteArray) (a1 : Int) (l2 : List ByteArray) : Option (Bool) := if a1 < 0 then (selvageref17_at.j0 k l0 a1 l2 true) else (selvageref17_at.j0 k l0 a1 l2 (decide ((wrap64 (a1 + (l2.length : Int))) > (l0.length : Int))))
theorem selvageref17_at.mono_l : ∀ k, (∀ y0 y1 y2 y3, LeO (selvageref17_at.j0 k y0 y1 y2 y3) (selvageref17_at.j0 (k + 1) y0 y1 y2 y3)) ∧ (∀ y0 y1 y2 y3, LeO (selvageref17_at.l0 k y0 y1 y2 y3) (selvageref17_at.l0 (k + 1) y0 y1 y2 y3))
 | 0 => ⟨fun _ _ _ _ r h => by simp [selvageref17_at.j0] at h, fun _ _ _ _ r h => by simp [selvageref17_at.l0] at h⟩
 | k + 1 => by
  obtain ⟨ih0, ih1⟩ := selvageref17_at.mono_l k
  refine ⟨?_, ?_⟩
  ·intro y0 y1 y2 y3
   unfold selvageref17_at.j0
   repeat' first
   | (with_reducible exact ih0 _ _ _ _)
   | (with_reducible exact ih1 _ _ _ _)
   | (with_reducible exact LeO.refl _)
   | (with_reducible exact LeO.none _)
   | (with_reducible refine LeO.ite ?_ ?_)
   | (with_reducible refine LeO.bind ?_ (fun _ => ?_))
   | exact ih0 _ _ _ _
   | exact ih1 _ _ _ _
   | exact LeO.none _
   | refine LeO.ite ?_ ?_
   | refine LeO.bind ?_ (fun _ => ?_)
  ·intro y0 y1 y2 y3
   unfold selvageref17_at.l0
   repeat' first
   | (with_reducible exact ih0 _ _ _ _)
   | (with_reducible exact ih1 _ _ _ _)
   | (with_reducible exact LeO.refl _)
   | (with_reducible exact LeO.none _)
   | (with_reducible refine LeO.ite ?_ ?_)
   | (with_reducible refine LeO.bind ?_ (fun _ => ?_))
   | exact ih0 _ _ _ _
   | exact ih1 _ _ _ _
   | exact LeO.none _
   | refine LeO.ite ?_ ?_
   | refine LeO.bind ?_ (fun _ => ?_)
theorem selvageref17_at.mono : ∀ a0 a1 a2 k, LeO (selvageref17_at.f k a0 a1 a2) (selvageref17_at.f (k + 1) a0 a1 a2) := by
 intro a0 a1 a2 k
 obtain ⟨ih0, ih1⟩ := selvageref17_at.mono_l k
 unfold selvageref17_at.f
 repeat' first
   | (with_reducible exact ih0 _ _ _ _)
   | (with_reducible exact ih1 _ _ _ _)
   | (with_reducible exact LeO.refl _)
   | (with_reducible exact LeO.none _)
   | (with_reducible refine LeO.ite ?_ ?_)
   | (with_reducible refine LeO.bind ?_ (fun _ => ?_))
   | exact ih0 _ _ _ _
   | exact ih1 _ _ _ _
   | exact LeO.none _
   | refine LeO.ite ?_ ?_
   | refine LeO.bind ?_ (fun _ => ?_)
set_option maxHeartbeats 8000000 in
set_option maxRecDepth 100000 in
theorem selvageref17_at.calls (k : Nat) (A0 : Option Addr) (c0 : Nat) (l0 : List ByteArray) (a1 : Int) (A2 : Option Addr) (c2 : Nat) (l2 : List ByteArray) (r : Bool) (w : World) (hr0 : Kd.C Kd.string w A0 l0.length l0) (hc0 : l0.length ≤ c0) (hr2 : Kd.C Kd.string w A2 l2.length l2) (hc2 : l2.length ≤ c2) (h : selvageref17_at.f k l0 a1 l2 = some r) :
  Calls Try.prog 71 #[.slice A0 l0.length c0, .int .i64 a1, .slice A2 l2.length c2] w fun e w' => e = .returned (.bool r) ∧ Drawn0 w w' := by
 have HR0 := Aside0.mk hr0
 have HC0 := Aside0.mk hc0
 clear hr0 hc0
 have HR2 := Aside0.mk hr2
 have HC2 := Aside0.mk hc2
 clear hr2 hc2
 have H := h
 clear h
 unfold selvageref17_at.f at H
 have HC4 := Aside0.mk H
 clear H
 go_enter Try.func71, Try.ntmps71
 go_upto_region 1 with (fail)
 repeat (go_quiet (fail); go_upto_region 1 with (fail))
 go_cut [18] (fun v18 wc => ∃ (kq : Nat) (x18_3 : Bool), v18 = .bool x18_3 ∧ Aside0 (selvageref17_at.j0 kq l0 a1 l2 x18_3 = some r) ∧ Aside0 (kq ≤ k) ∧ Drawn0 w wc)
 case first =>
  have H := HC4.out
  clear HC4
  replace H := itL H
  rcases H with ⟨-, c5b0, H⟩ | ⟨-, c5b0, H⟩
  ·(first | rw [c5b0] | (simp only [i64_w, i32_w]; rw [c5b0]) | skip)
   have H' := Aside0.mk H
   clear H
   go_wp2
   repeat (go_quiet (fail); try go_wp2)
   go_meet
   case rel => exact ⟨_, (true), eqNow, H', ⟨by first | omega | exact Nat.le_refl _⟩, drawnNow⟩
  (first | rw [c5b0] | (simp only [i64_w, i32_w]; rw [c5b0]) | skip)
  have H' := Aside0.mk H
  clear H
  go_wp2
  repeat (go_quiet (fail); try go_wp2)
  go_meet
  case rel => exact ⟨_, (decide ((wrap64 (a1 + (l2.length : Int))) > (l0.length : Int))), eqNow, H', ⟨by first | omega | exact Nat.le_refl _⟩, drawnNow⟩
 case rest =>
  clear HC4
  try clear c2
  obtain ⟨kq, x18_3, rfl, HA, HJ3, ⟨mc3, rfl⟩⟩ := hcut
  cases kq with
  | zero => exact absurd HA.out (by simp [selvageref17_at.j0])
  | succ kj3 =>
   have H := HA.out
   clear HA
   simp only [selvageref17_at.j0] at H
   replace H := itB H
   rcases H with ⟨rfl, H⟩ | ⟨rfl, H⟩
   ·obtain rfl := Option.some.inj H
    go_wp2
    repeat (go_quiet (fail); try go_wp2)
    go_ret
    exact ⟨eqFin, drawnNow⟩
   have H' := Aside0.mk H
   clear H
   go_wp2
   repeat (go_quiet (fail); try go_wp2)
   go_loopg [7] kj3 (fun kq v7 w' => ∃ (x7_2 : Int), v7 = .int .i64 x7_2 ∧ Aside0 (selvageref17_at.l0 kq l0 a1 l2 x7_2 = some r) ∧ Aside0 (kq ≤ kj3) ∧ Drawn0 w w')
   case atStart => exact ⟨(0), eqNow, H', ⟨Nat.le_refl _⟩, drawnNow⟩
   case round =>
    clear H'
    try clear c2
    try clear c6
    obtain ⟨x7_2, rfl, HA, HK2, ⟨m2, rfl⟩⟩ := hrel
    cases gk with
    | zero => exact absurd HA.out (by simp [selvageref17_at.l0])
    | succ k2 =>
     have H := HA.out
     clear HA
     simp only [selvageref17_at.l0] at H
     replace H := itLn H
     rcases H with ⟨-, c7b0, H⟩ | ⟨-, c7b0, H⟩
     ·obtain rfl := Option.some.inj H
      go_wp2
      repeat (go_quiet (fail); try go_wp2)
      go_ret
      exact ⟨eqFin, drawnNow⟩
     obtain ⟨ji8, hji8⟩ : ∃ j_ : Int, (wrap64 (a1 + x7_2)) = j_ := ⟨_, rfl⟩
     first | rw [hji8] at H | simp only [hji8] at H
     have hji8w : (IntKind.i64.wrap (a1 + x7_2)) = ji8 := (i64_w _).trans hji8
     replace H := itLn H
     rcases H with ⟨_, _, H⟩ | ⟨-, c9b0, H⟩
     ·cases H
     replace H := itLn H
     rcases H with ⟨_, _, H⟩ | ⟨-, c10b0, H⟩
     ·cases H
     replace H := itLn H
     rcases H with ⟨_, _, H⟩ | ⟨-, c11b0, H⟩
     ·cases H
     replace H := itE H
     rcases H with ⟨-, c12b0, c12b1, H⟩ | ⟨c12, c12b0, c12b1, H⟩
     ·have H' := Aside0.mk H
      clear H
      have p459 : 0 ≤ ((ji8) : Int) := ofDec
      have q459 : (ji8) < (l0.length : Int) := ofDec
      obtain ⟨ad459, e459, hx459_0⟩ := Kd.at_string HR0.out (ji8) p459 q459
      cases e459
      replace p459 := eq_true p459
      replace q459 := eq_true q459
      have p460 : 0 ≤ (x7_2 : Int) := ofDec
      have q460 : x7_2 < (l2.length : Int) := ofDec
      obtain ⟨ad460, e460, hx460_0⟩ := Kd.at_string HR2.out x7_2 p460 q460
      cases e460
      replace p460 := eq_true p460
      replace q460 := eq_true q460
      go_wp2
      repeat (go_quiet (fail); try go_wp2)
      go_roundg k2
      case measure => have := HJ3.out; have := HK2.out; omega
      case rel => exact ⟨(wrap64 (x7_2 + 1)), eqNow, H', ⟨by have := HJ3.out; have := HK2.out; omega⟩, drawnNow⟩
     obtain rfl := Option.some.inj H
     have p459 : 0 ≤ ((ji8) : Int) := ofDec
     have q459 : (ji8) < (l0.length : Int) := ofDec
     obtain ⟨ad459, e459, hx459_0⟩ := Kd.at_string HR0.out (ji8) p459 q459
     cases e459
     replace p459 := eq_true p459
     replace q459 := eq_true q459
     have p460 : 0 ≤ (x7_2 : Int) := ofDec
     have q460 : x7_2 < (l2.length : Int) := ofDec
     obtain ⟨ad460, e460, hx460_0⟩ := Kd.at_string HR2.out x7_2 p460 q460
     cases e460
     replace p460 := eq_true p460
     replace q460 := eq_true q460
     go_wp2
     repeat (go_quiet (fail); try go_wp2)
     go_ret
     exact ⟨by first | rfl | (simp; done) | (simp only [← hji8] <;> (first | rfl | simp)) | (simp [*]; done) | (simp [*] <;> rfl) | (simp only [i64_w, i32_w, u8_w]; first | rfl | (simp [errW_none, errW_some] <;> rfl)) | (simp only [bne_nil, beq_nil]; first | rfl | (simp <;> rfl)), drawnNow⟩
def selvageref17_far.f (a0 : Int) (a1 : Int) : Option (Int) := if a0 < a1 then (some (IntKind.u64.wrap ((IntKind.u64.wrap (a1)) - (IntKind.u64.wrap (a0))))) else (some (IntKind.u64.wrap ((IntKind.u64.wrap (a0)) - (IntKind.u64.wrap (a1)))))
set_option maxHeartbeats 8000000 in
set_option maxRecDepth 100000 in
theorem selvageref17_far.calls (a0 : Int) (a1 : Int) (r : Int) (w : World) (h : selvageref17_far.f a0 a1 = some r) :
  Calls Try.prog 72 #[.int .i64 a0, .int .i64 a1] w fun e w' => e = .returned (.int .u64 r) ∧ Drawn0 w w' := by
 have H := h
 clear h
 unfold selvageref17_far.f at H
 replace H := itL H
 rcases H with ⟨-, c3b0, H⟩ | ⟨-, c3b0, H⟩
 ·obtain rfl := Option.some.inj H
  go_enter Try.func72, Try.ntmps72
  go_wp2
  go_ret
  exact ⟨eqFin, drawnNow⟩
 obtain rfl := Option.some.inj H
 go_enter Try.func72, Try.ntmps72
 go_wp2
 go_ret
 exact ⟨eqFin, drawnNow⟩
mutual
def selvageref17_contexts.j1 : Nat → Int → Int → Int → Int → Int → Int → ByteArray → List (S72) → Option (Int × Int)
 | 0, _, _, _, _, _, _, _, _ => none
 | k + 1, x4, x5, x462000, x462001, x462002, x462003, x462004, x462005 => selvageref17_contexts.l1 k x4 x5 x462000 x462001 x462002 x462003 x462004 x462005
def selvageref17_contexts.l1 : Nat → Int → Int → Int → Int → Int → Int → ByteArray → List (S72) → Option (Int × Int)
 | 0, _, _, _, _, _, _, _, _ => none
 | k + 1, x4, x5, x462000, x462001, x462002, x462003, x462004, x462005 => if x5 < (wrap64 ((x462005.length : Int) - x4)) then (if 0 ≤ (wrap64 ((wrap64 ((x462005.length : Int) - 1)) - x5)) then (if (wrap64 ((wrap64 ((x462005.length : Int) - 1)) - x5)) < (x462005.length : Int) then (if ((rd_T72 x462005 (wrap64 ((wrap64 ((x462005.length : Int) - 1)) - x5))).f0) = 1 then (selvageref17_contexts.l1 k x4 (wrap64 (x5 + 1)) x462000 x462001 x462002 x462003 x462004 x462005) else (some (x4, x5))) else (none)) else (none)) else (some (x4, x5))
def selvageref17_contexts.l0 : Nat → Int → Int → Int → Int → Int → Int → ByteArray → List (S72) → Option (Int × Int)
 | 0, _, _, _, _, _, _, _, _ => none
 | k + 1, x4, x5, x462000, x462001, x462002, x462003, x462004, x462005 => if x4 < (x462005.length : Int) then (if 0 ≤ x4 then (if ((rd_T72 x462005 x4).f0) = 1 then (selvageref17_contexts.l0 k (wrap64 (x4 + 1)) x5 x462000 x462001 x462002 x462003 x462004 x462005) else (selvageref17_contexts.j1 k x4 x5 x462000 x462001 x462002 x462003 x462004 x462005)) else (none)) else (selvageref17_contexts.j1 k x4 x5 x462000 x462001 x462002 x462003 x462004 x462005)
end
def selvageref17_contexts.f (k : Nat) (a0_0 : Int) (a0_1 : Int) (a0_2 : Int) (a0_3 : Int) (a0_4 : ByteArray) (l0_5 : List (S72)) : Option (Int × Int) := selvageref17_contexts.l0 k 0 0 a0_0 a0_1 a0_2 a0_3 a0_4 l0_5
theorem selvageref17_contexts.mono_l : ∀ k, (∀ y0 y1 y2 y3 y4 y5 y6 y7, LeO (selvageref17_contexts.j1 k y0 y1 y2 y3 y4 y5 y6 y7) (selvageref17_contexts.j1 (k + 1) y0 y1 y2 y3 y4 y5 y6 y7)) ∧ (∀ y0 y1 y2 y3 y4 y5 y6 y7, LeO (selvageref17_contexts.l1 k y0 y1 y2 y3 y4 y5 y6 y7) (selvageref17_contexts.l1 (k + 1) y0 y1 y2 y3 y4 y5 y6 y7)) ∧ (∀ y0 y1 y2 y3 y4 y5 y6 y7, LeO (selvageref17_contexts.l0 k y0 y1 y2 y3 y4 y5 y6 y7) (selvageref17_contexts.l0 (k + 1) y0 y1 y2 y3 y4 y5 y6 y7))
 | 0 => ⟨fun _ _ _ _ _ _ _ _ r h => by simp [selvageref17_contexts.j1] at h, fun _ _ _ _ _ _ _ _ r h => by simp [selvageref17_contexts.l1] at h, fun _ _ _ _ _ _ _ _ r h => by simp [selvageref17_contexts.l0] at h⟩
 | k + 1 => by
  obtain ⟨ih0, ih1, ih2⟩ := selvageref17_contexts.mono_l k
  refine ⟨?_, ?_, ?_⟩
  ·intro y0 y1 y2 y3 y4 y5 y6 y7
   unfold selvageref17_contexts.j1
   repeat' first
   | (with_reducible exact ih0 _ _ _ _ _ _ _ _)
   | (with_reducible exact ih1 _ _ _ _ _ _ _ _)
   | (with_reducible exact ih2 _ _ _ _ _ _ _ _)
   | (with_reducible exact LeO.refl _)
   | (with_reducible exact LeO.none _)
   | (with_reducible refine LeO.ite ?_ ?_)
   | (with_reducible refine LeO.bind ?_ (fun _ => ?_))
   | exact ih0 _ _ _ _ _ _ _ _
   | exact ih1 _ _ _ _ _ _ _ _
   | exact ih2 _ _ _ _ _ _ _ _
   | exact LeO.none _
   | refine LeO.ite ?_ ?_
   | refine LeO.bind ?_ (fun _ => ?_)
  ·intro y0 y1 y2 y3 y4 y5 y6 y7
   unfold selvageref17_contexts.l1
   repeat' first
   | (with_reducible exact ih0 _ _ _ _ _ _ _ _)
   | (with_reducible exact ih1 _ _ _ _ _ _ _ _)
   | (with_reducible exact ih2 _ _ _ _ _ _ _ _)
   | (with_reducible exact LeO.refl _)
   | (with_reducible exact LeO.none _)
   | (with_reducible refine LeO.ite ?_ ?_)
   | (with_reducible refine LeO.bind ?_ (fun _ => ?_))
   | exact ih0 _ _ _ _ _ _ _ _
   | exact ih1 _ _ _ _ _ _ _ _
   | exact ih2 _ _ _ _ _ _ _ _
   | exact LeO.none _
   | refine LeO.ite ?_ ?_
   | refine LeO.bind ?_ (fun _ => ?_)
  ·intro y0 y1 y2 y3 y4 y5 y6 y7
   unfold selvageref17_contexts.l0
   repeat' first
   | (with_reducible exact ih0 _ _ _ _ _ _ _ _)
   | (with_reducible exact ih1 _ _ _ _ _ _ _ _)
   | (with_reducible exact ih2 _ _ _ _ _ _ _ _)
   | (with_reducible exact LeO.refl _)
   | (with_reducible exact LeO.none _)
   | (with_reducible refine LeO.ite ?_ ?_)
   | (with_reducible refine LeO.bind ?_ (fun _ => ?_))
   | exact ih0 _ _ _ _ _ _ _ _
   | exact ih1 _ _ _ _ _ _ _ _
   | exact ih2 _ _ _ _ _ _ _ _
   | exact LeO.none _
   | refine LeO.ite ?_ ?_
   | refine LeO.bind ?_ (fun _ => ?_)
theorem selvageref17_contexts.mono : ∀ a0 a1 a2 a3 a4 a5 k, LeO (selvageref17_contexts.f k a0 a1 a2 a3 a4 a5) (selvageref17_contexts.f (k + 1) a0 a1 a2 a3 a4 a5) := by
 intro a0 a1 a2 a3 a4 a5 k
 obtain ⟨ih0, ih1, ih2⟩ := selvageref17_contexts.mono_l k
 unfold selvageref17_contexts.f
 repeat' first
   | (with_reducible exact ih0 _ _ _ _ _ _ _ _)
   | (with_reducible exact ih1 _ _ _ _ _ _ _ _)
   | (with_reducible exact ih2 _ _ _ _ _ _ _ _)
   | (with_reducible exact LeO.refl _)
   | (with_reducible exact LeO.none _)
   | (with_reducible refine LeO.ite ?_ ?_)
   | (with_reducible refine LeO.bind ?_ (fun _ => ?_))
   | exact ih0 _ _ _ _ _ _ _ _
   | exact ih1 _ _ _ _ _ _ _ _
   | exact ih2 _ _ _ _ _ _ _ _
   | exact LeO.none _
   | refine LeO.ite ?_ ?_
   | refine LeO.bind ?_ (fun _ => ?_)
set_option maxHeartbeats 8000000 in
set_option maxRecDepth 100000 in
theorem selvageref17_contexts.calls (k : Nat) (a0_0 : Int) (a0_1 : Int) (a0_2 : Int) (a0_3 : Int) (a0_4 : ByteArray) (A0_5 : Option Addr) (c0_5 : Nat) (l0_5 : List (S72)) (r1 : Int) (r2 : Int) (w : World) (hr0_5 : Kd.C k72 w A0_5 l0_5.length l0_5) (hc0_5 : l0_5.length ≤ c0_5) (h : selvageref17_contexts.f k a0_0 a0_1 a0_2 a0_3 a0_4 l0_5 = some (r1, r2)) :
  Calls Try.prog 73 #[.agg #[.int .i64 a0_0, .int .i64 a0_1, .int .i64 a0_2, .int .i64 a0_3, .string a0_4, .slice A0_5 l0_5.length c0_5]] w fun e w' => e = .returned (.tuple #[.int .i64 r1, .int .i64 r2]) ∧ Below w.heap.size w w' := by
 have hu41 := Try.underlying41
 have HR0_5 := Aside0.mk hr0_5
 have HC0_5 := Aside0.mk hc0_5
 clear hr0_5 hc0_5
 have HB := Aside0.mk (Below.refl w.heap.size w)
 have H := h
 clear h
 unfold selvageref17_contexts.f at H
 have HC2 := Aside0.mk H
 clear H
 go_enter Try.func73, Try.ntmps73
 go_upto_block 0 with (first | ((with_reducible refine gate_dst (N := 1) rfl ?_); (try (refine gate_guard (by rfl) ?_; dsimp only)); refine boxEv (N := 1) #[.int .i64 a0_0, .int .i64 a0_1, .int .i64 a0_2, .int .i64 a0_3, .string a0_4, .slice A0_5 l0_5.length c0_5] 41 ?_; intro gb461 hg w3 hbox hb; have BK461 := Aside0.mk hbox; have GW461 := gwN HB hg; have GE461 := GW461; replace HB := hbD HB hb; clear hb hbox hg))
 (try simp only [Act.put, List.setIfInBounds_toArray, List.set_cons_zero, List.set_cons_succ])
 go_cut [4] (fun v4 wc => ∃ (kq : Nat) (x4_1 : Int), v4 = .int .i64 x4_1 ∧ Aside0 (selvageref17_contexts.j1 kq x4_1 0 a0_0 a0_1 a0_2 a0_3 a0_4 l0_5 = some (r1, r2)) ∧ Aside0 (kq ≤ k) ∧ Aside0 (wc.heap[gb461]? = some (.cells #[.int .i64 a0_0, .int .i64 a0_1, .int .i64 a0_2, .int .i64 a0_3, .string a0_4, (.slice A0_5 l0_5.length c0_5)] 41 (0, 0))) ∧ Aside0 (Below w.heap.size w wc))
 case first =>
  have H := HC2.out
  clear HC2
  have H' := Aside0.mk H
  clear H
  go_wp2
  go_loopg [4] k (fun kq v4 w' => ∃ (x4_1 : Int), v4 = .int .i64 x4_1 ∧ Aside0 (selvageref17_contexts.l0 kq x4_1 0 a0_0 a0_1 a0_2 a0_3 a0_4 l0_5 = some (r1, r2)) ∧ Aside0 (kq ≤ k) ∧ Aside0 (w'.heap[gb461]? = some (.cells #[.int .i64 a0_0, .int .i64 a0_1, .int .i64 a0_2, .int .i64 a0_3, .string a0_4, (.slice A0_5 l0_5.length c0_5)] 41 (0, 0))) ∧ Aside0 (Below w.heap.size w w'))
  case atStart => exact ⟨(0), eqNow, H', ⟨Nat.le_refl _⟩, ⟨bkUp BK461.out⟩, ⟨belPut⟩⟩
  case round =>
   clear H'
   obtain ⟨x4_1, rfl, HA, HK1, BK461, HB⟩ := hrel
   cases gk with
   | zero => exact absurd HA.out (by simp [selvageref17_contexts.l0])
   | succ k1 =>
    have H := HA.out
    clear HA
    simp only [selvageref17_contexts.l0] at H
    replace H := itLn H
    rcases H with ⟨-, c4b0, H⟩ | ⟨-, c4b0, H⟩
    ·(first | rw [c4b0] | (simp only [i64_w, i32_w]; rw [c4b0]) | skip)
     have H' := Aside0.mk H
     clear H
     have hcz9_0 := bkc (v := .int .i64 a0_0) BK461.out 0 rfl
     have hcz9_1 := bkc (v := .int .i64 a0_1) BK461.out 1 rfl
     have hcz9_2 := bkc (v := .int .i64 a0_2) BK461.out 2 rfl
     have hcz9_3 := bkc (v := .int .i64 a0_3) BK461.out 3 rfl
     have hcz9_4 := bkc (v := .string a0_4) BK461.out 4 rfl
     have hcz9_5 := bkc (v := .slice A0_5 l0_5.length c0_5) BK461.out 5 rfl
     have hfz9_0 := blk_frozen BK461.out 0
     have hfz9_1 := blk_frozen BK461.out 1
     have hfz9_2 := blk_frozen BK461.out 2
     have hfz9_3 := blk_frozen BK461.out 3
     have hfz9_4 := blk_frozen BK461.out 4
     have hfz9_5 := blk_frozen BK461.out 5
     go_wp2
     go_meet
     case rel => exact ⟨_, (x4_1), eqNow, H', ⟨by have := HK1.out; first | omega | exact Nat.le_refl _⟩, ⟨bkUp BK461.out⟩, ⟨belPut⟩⟩
    (first | rw [c4b0] | (simp only [i64_w, i32_w]; rw [c4b0]) | skip)
    replace H := itLn H
    rcases H with ⟨_, _, H⟩ | ⟨-, c5b0, H⟩
    ·cases H
    replace H := itEn H
    rcases H with ⟨c6, c6b0, c6b1, H⟩ | ⟨-, c6b0, c6b1, H⟩
    ·have H' := Aside0.mk H
     clear H
     have hcz8_0 := bkc (v := .int .i64 a0_0) BK461.out 0 rfl
     have hcz8_1 := bkc (v := .int .i64 a0_1) BK461.out 1 rfl
     have hcz8_2 := bkc (v := .int .i64 a0_2) BK461.out 2 rfl
     have hcz8_3 := bkc (v := .int .i64 a0_3) BK461.out 3 rfl
     have hcz8_4 := bkc (v := .string a0_4) BK461.out 4 rfl
     have hcz8_5 := bkc (v := .slice A0_5 l0_5.length c0_5) BK461.out 5 rfl
     have hfz8_0 := blk_frozen BK461.out 0
     have hfz8_1 := blk_frozen BK461.out 1
     have hfz8_2 := blk_frozen BK461.out 2
     have hfz8_3 := blk_frozen BK461.out 3
     have hfz8_4 := blk_frozen BK461.out 4
     have hfz8_5 := blk_frozen BK461.out 5
     obtain ⟨ad462, rfl, hx462_0, hx462_1, p462, q462⟩ := atU_T72 HR0_5 HB x4_1
     go_wp2
     go_meet
     case rel => exact ⟨_, (x4_1), eqNow, H', ⟨by have := HK1.out; first | omega | exact Nat.le_refl _⟩, ⟨bkUp BK461.out⟩, ⟨belPut⟩⟩
    have H' := Aside0.mk H
    clear H
    have hcz7_0 := bkc (v := .int .i64 a0_0) BK461.out 0 rfl
    have hcz7_1 := bkc (v := .int .i64 a0_1) BK461.out 1 rfl
    have hcz7_2 := bkc (v := .int .i64 a0_2) BK461.out 2 rfl
    have hcz7_3 := bkc (v := .int .i64 a0_3) BK461.out 3 rfl
    have hcz7_4 := bkc (v := .string a0_4) BK461.out 4 rfl
    have hcz7_5 := bkc (v := .slice A0_5 l0_5.length c0_5) BK461.out 5 rfl
    have hfz7_0 := blk_frozen BK461.out 0
    have hfz7_1 := blk_frozen BK461.out 1
    have hfz7_2 := blk_frozen BK461.out 2
    have hfz7_3 := blk_frozen BK461.out 3
    have hfz7_4 := blk_frozen BK461.out 4
    have hfz7_5 := blk_frozen BK461.out 5
    obtain ⟨ad462, rfl, hx462_0, hx462_1, p462, q462⟩ := atU_T72 HR0_5 HB x4_1
    go_wp2
    go_roundg k1
    case measure => have := HK1.out; omega
    case rel => exact ⟨(wrap64 (x4_1 + 1)), eqNow, H', ⟨by have := HK1.out; omega⟩, ⟨bkUp BK461.out⟩, ⟨belPut⟩⟩
 case rest =>
  clear HC2
  obtain ⟨kq, x4_1, rfl, HA, HJ1, BK461, HB⟩ := hcut
  cases kq with
  | zero => exact absurd HA.out (by simp [selvageref17_contexts.j1])
  | succ kj1 =>
   have H := HA.out
   clear HA
   simp only [selvageref17_contexts.j1] at H
   have H' := Aside0.mk H
   clear H
   go_wp2
   go_loopg [5] kj1 (fun kq v5 w' => ∃ (x5_2 : Int), v5 = .int .i64 x5_2 ∧ Aside0 (selvageref17_contexts.l1 kq x4_1 x5_2 a0_0 a0_1 a0_2 a0_3 a0_4 l0_5 = some (r1, r2)) ∧ Aside0 (kq ≤ kj1) ∧ Aside0 (w'.heap[gb461]? = some (.cells #[.int .i64 a0_0, .int .i64 a0_1, .int .i64 a0_2, .int .i64 a0_3, .string a0_4, (.slice A0_5 l0_5.length c0_5)] 41 (0, 0))) ∧ Aside0 (Below w.heap.size w w'))
   case atStart => exact ⟨(0), eqNow, H', ⟨Nat.le_refl _⟩, ⟨bkUp BK461.out⟩, ⟨belPut⟩⟩
   case round =>
    clear H'
    obtain ⟨x5_2, rfl, HA, HK2, BK461, HB⟩ := hrel
    cases gk with
    | zero => exact absurd HA.out (by simp [selvageref17_contexts.l1])
    | succ k2 =>
     have H := HA.out
     clear HA
     simp only [selvageref17_contexts.l1] at H
     replace H := itLn H
     rcases H with ⟨-, c10b0, H⟩ | ⟨-, c10b0, H⟩
     ·simp only [Option.some.injEq, Prod.mk.injEq] at H
      obtain ⟨rfl, rfl⟩ := H
      have hcz17_0 := bkc (v := .int .i64 a0_0) BK461.out 0 rfl
      have hcz17_1 := bkc (v := .int .i64 a0_1) BK461.out 1 rfl
      have hcz17_2 := bkc (v := .int .i64 a0_2) BK461.out 2 rfl
      have hcz17_3 := bkc (v := .int .i64 a0_3) BK461.out 3 rfl
      have hcz17_4 := bkc (v := .string a0_4) BK461.out 4 rfl
      have hcz17_5 := bkc (v := .slice A0_5 l0_5.length c0_5) BK461.out 5 rfl
      have hfz17_0 := blk_frozen BK461.out 0
      have hfz17_1 := blk_frozen BK461.out 1
      have hfz17_2 := blk_frozen BK461.out 2
      have hfz17_3 := blk_frozen BK461.out 3
      have hfz17_4 := blk_frozen BK461.out 4
      have hfz17_5 := blk_frozen BK461.out 5
      go_wp2
      go_ret2
      exact ⟨eqEnd, belPut⟩
     obtain ⟨ji11, hji11⟩ : ∃ j_ : Int, (wrap64 ((wrap64 ((l0_5.length : Int) - 1)) - x5_2)) = j_ := ⟨_, rfl⟩
     first | rw [hji11] at H | simp only [hji11] at H
     have hji11w : (IntKind.i64.wrap ((wrap64 ((l0_5.length : Int) - 1)) - x5_2)) = ji11 := (i64_w _).trans hji11
     replace H := itLn H
     rcases H with ⟨_, _, H⟩ | ⟨-, c12b0, H⟩
     ·cases H
     replace H := itLn H
     rcases H with ⟨_, _, H⟩ | ⟨-, c13b0, H⟩
     ·cases H
     replace H := itE H
     rcases H with ⟨-, c14b0, c14b1, H⟩ | ⟨c14, c14b0, c14b1, H⟩
     ·have H' := Aside0.mk H
      clear H
      have hcz15_0 := bkc (v := .int .i64 a0_0) BK461.out 0 rfl
      have hcz15_1 := bkc (v := .int .i64 a0_1) BK461.out 1 rfl
      have hcz15_2 := bkc (v := .int .i64 a0_2) BK461.out 2 rfl
      have hcz15_3 := bkc (v := .int .i64 a0_3) BK461.out 3 rfl
      have hcz15_4 := bkc (v := .string a0_4) BK461.out 4 rfl
      have hcz15_5 := bkc (v := .slice A0_5 l0_5.length c0_5) BK461.out 5 rfl
      have hfz15_0 := blk_frozen BK461.out 0
      have hfz15_1 := blk_frozen BK461.out 1
      have hfz15_2 := blk_frozen BK461.out 2
      have hfz15_3 := blk_frozen BK461.out 3
      have hfz15_4 := blk_frozen BK461.out 4
      have hfz15_5 := blk_frozen BK461.out 5
      obtain ⟨ad463, rfl, hx463_0, hx463_1, p463, q463⟩ := atU_T72 HR0_5 HB (ji11)
      go_wp2
      go_roundg k2
      case measure => have := HJ1.out; have := HK2.out; omega
      case rel => exact ⟨(wrap64 (x5_2 + 1)), eqNow, H', ⟨by have := HJ1.out; have := HK2.out; omega⟩, ⟨bkUp BK461.out⟩, ⟨belPut⟩⟩
     simp only [Option.some.injEq, Prod.mk.injEq] at H
     obtain ⟨rfl, rfl⟩ := H
     have hcz16_0 := bkc (v := .int .i64 a0_0) BK461.out 0 rfl
     have hcz16_1 := bkc (v := .int .i64 a0_1) BK461.out 1 rfl
     have hcz16_2 := bkc (v := .int .i64 a0_2) BK461.out 2 rfl
     have hcz16_3 := bkc (v := .int .i64 a0_3) BK461.out 3 rfl
     have hcz16_4 := bkc (v := .string a0_4) BK461.out 4 rfl
     have hcz16_5 := bkc (v := .slice A0_5 l0_5.length c0_5) BK461.out 5 rfl
     have hfz16_0 := blk_frozen BK461.out 0
     have hfz16_1 := blk_frozen BK461.out 1
     have hfz16_2 := blk_frozen BK461.out 2
     have hfz16_3 := blk_frozen BK461.out 3
     have hfz16_4 := blk_frozen BK461.out 4
     have hfz16_5 := blk_frozen BK461.out 5
     obtain ⟨ad463, rfl, hx463_0, hx463_1, p463, q463⟩ := atU_T72 HR0_5 HB (ji11)
     go_wp2
     go_ret2
     exact ⟨by first | rfl | (simp [errW_none, errW_some] <;> rfl) | (simp only [← hji11]; first | rfl | (simp [errW_none, errW_some] <;> rfl)) | (simp [*, errW_none, errW_some] <;> rfl) | (simp only [i64_w, i32_w, u8_w]; first | rfl | (simp [errW_none, errW_some] <;> rfl)) | (simp only [bne_nil, beq_nil]; first | rfl | (simp <;> rfl)), belPut⟩
end Go.Proofs.Ytkoagpnoaibdjaa.Pp
