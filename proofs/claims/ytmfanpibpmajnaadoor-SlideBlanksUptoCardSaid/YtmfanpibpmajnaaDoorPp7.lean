-- Printed by this session's pp.py over the kit's printer, out of the translation. Lean checks it.
import Derived.Test.YtmfanpibpmajnaaDoorESq
import Derived.Test.YtmfanpibpmajnaaDoorPp0
import Derived.Test.YtmfanpibpmajnaaDoorPp4
namespace Go.Proofs.YtmfanpibpmajnaaDoor.Pp
open Go.RowKit Go.Proofs.YtmfanpibpmajnaaDoor.Ext Go.Proofs.YtmfanpibpmajnaaDoorW.PrintWords Go.Proofs.YtmfanpibpmajnaaDoorW.PrintLast Go.Proofs.YtmfanpibpmajnaaDoorW.PrintMore
attribute [local go_sem] max2_int min2_int max_two min_two max_three min_three max_four min_four   -- for this text's walks alone
set_option linter.unusedVariables false
set_option linter.unusedSimpArgs false
def stringslite_HasSuffix.f (a0 : ByteArray) (a1 : ByteArray) : Option (Bool) := if (a0.size : Int) ≥ (a1.size : Int) then (if 0 ≤ (wrap64 ((a0.size : Int) - (a1.size : Int))) then (if (wrap64 ((a0.size : Int) - (a1.size : Int))) ≤ (a0.size : Int) then (some ((a0.extract ((wrap64 ((a0.size : Int) - (a1.size : Int))) : Int).toNat a0.size).toList == a1.toList)) else (none)) else (none)) else (some false)
set_option maxHeartbeats 8000000 in
set_option maxRecDepth 100000 in
theorem stringslite_HasSuffix.calls (a0 : ByteArray) (a1 : ByteArray) (r : Bool) (w : World) (h : stringslite_HasSuffix.f a0 a1 = some r) :
  Calls Tryd.prog 63 #[.string a0, .string a1] w fun e w' => e = .returned (.bool r) ∧ Drawn0 w w' := by
 have H : (if (a0.size : Int) ≥ (a1.size : Int) then (if 0 ≤ (wrap64 ((a0.size : Int) - (a1.size : Int))) then (if (wrap64 ((a0.size : Int) - (a1.size : Int))) ≤ (a0.size : Int) then (some ((a0.extract ((wrap64 ((a0.size : Int) - (a1.size : Int))) : Int).toNat a0.size).toList == a1.toList)) else (none)) else (none)) else (some false)) = some r := h
 clear h
 by_cases c3 : (a0.size : Int) ≥ (a1.size : Int)
 ·rw [if_pos c3] at H
  have c3b0 : decide ((a1.size : Int) ≤ (a0.size : Int)) = true := decide_eq_true c3
  have c3b1 : decide (a1.size ≤ a0.size) = true := decide_eq_true (Int.ofNat_le.mp c3)
  clear c3
  obtain ⟨ji4, hji4⟩ : ∃ j_ : Int, (wrap64 ((a0.size : Int) - (a1.size : Int))) = j_ := ⟨_, rfl⟩
  replace H : (if 0 ≤ (ji4) then (if (ji4) ≤ (a0.size : Int) then (some ((a0.extract ((ji4) : Int).toNat a0.size).toList == a1.toList)) else (none)) else (none)) = some r := by first | (rw [hji4] at H; exact H) | (simp only [hji4] at H ⊢; exact H)
  have hji4w : (IntKind.i64.wrap ((a0.size : Int) - (a1.size : Int))) = ji4 := (i64_w _).trans hji4
  by_cases c5 : 0 ≤ (ji4)
  ·rw [if_pos c5] at H
   have c5b0 := eq_true c5
   have c5b1 : decide (0 ≤ (ji4)) = true := decide_eq_true c5
   clear c5
   by_cases c6 : (ji4) ≤ (a0.size : Int)
   ·rw [if_pos c6] at H
    have c6b0 := eq_true c6
    have c6b1 : decide ((ji4) ≤ (a0.size : Int)) = true := decide_eq_true c6
    clear c6
    obtain rfl := Option.some.inj H
    go_enter Tryd.func63, Tryd.ntmps63
    go_wp2
    go_ret
    exact ⟨by first | rfl | (simp; done) | (simp only [← hji4] <;> (first | rfl | simp)) | (simp [*]; done) | (simp [*] <;> rfl) | (simp only [i64_w, i32_w, u8_w]; first | rfl | (simp [errW_none, errW_some] <;> rfl)) | (simp only [bne_nil, beq_nil]; first | rfl | (simp <;> rfl)), drawnNow⟩
   ·rw [if_neg c6] at H
    exact absurd H (by simp)
  ·rw [if_neg c5] at H
   exact absurd H (by simp)
 ·rw [if_neg c3] at H
  have c3b0 : decide ((a1.size : Int) ≤ (a0.size : Int)) = false := decide_eq_false c3
  have c3b1 : decide (a1.size ≤ a0.size) = false := decide_eq_false (fun h => c3 (Int.ofNat_le.mpr h))
  clear c3
  obtain rfl := Option.some.inj H
  go_enter Tryd.func63, Tryd.ntmps63
  go_wp2
  go_ret
  exact ⟨eqFin, drawnNow⟩
def stringslite_TrimSuffix.f (a0 : ByteArray) (a1 : ByteArray) : Option (ByteArray) := (stringslite_HasSuffix.f a0 a1).bind fun t152 => (if t152 = true then (if 0 ≤ (wrap64 ((a0.size : Int) - (a1.size : Int))) then (if (wrap64 ((a0.size : Int) - (a1.size : Int))) ≤ (a0.size : Int) then (some (a0.extract 0 ((wrap64 ((a0.size : Int) - (a1.size : Int))) : Int).toNat)) else (none)) else (none)) else (some a0))
set_option maxHeartbeats 8000000 in
set_option maxRecDepth 100000 in
theorem stringslite_TrimSuffix.calls (a0 : ByteArray) (a1 : ByteArray) (r : ByteArray) (w : World) (h : stringslite_TrimSuffix.f a0 a1 = some r) :
  Calls Tryd.prog 59 #[.string a0, .string a1] w fun e w' => e = .returned (.string r) ∧ Drawn0 w w' := by
 have H : ((stringslite_HasSuffix.f a0 a1).bind fun t152 => (if t152 = true then (if 0 ≤ (wrap64 ((a0.size : Int) - (a1.size : Int))) then (if (wrap64 ((a0.size : Int) - (a1.size : Int))) ≤ (a0.size : Int) then (some (a0.extract 0 ((wrap64 ((a0.size : Int) - (a1.size : Int))) : Int).toNat)) else (none)) else (none)) else (some a0))) = some r := h
 clear h
 replace H := Option.bind_eq_some_iff.mp H
 obtain ⟨t152, A30, H⟩ := H
 replace H : (if t152 = true then (if 0 ≤ (wrap64 ((a0.size : Int) - (a1.size : Int))) then (if (wrap64 ((a0.size : Int) - (a1.size : Int))) ≤ (a0.size : Int) then (some (a0.extract 0 ((wrap64 ((a0.size : Int) - (a1.size : Int))) : Int).toNat)) else (none)) else (none)) else (some a0)) = some r := H
 have A3 := Aside0.mk A30
 clear A30
 by_cases c4 : t152 = true
 ·subst c4
  have H1 : (if 0 ≤ (wrap64 ((a0.size : Int) - (a1.size : Int))) then (if (wrap64 ((a0.size : Int) - (a1.size : Int))) ≤ (a0.size : Int) then (some (a0.extract 0 ((wrap64 ((a0.size : Int) - (a1.size : Int))) : Int).toNat)) else (none)) else (none)) = some r := by rw [if_pos rfl] at H; exact H
  clear H
  have H := H1
  clear H1
  obtain ⟨ji5, hji5⟩ : ∃ j_ : Int, (wrap64 ((a0.size : Int) - (a1.size : Int))) = j_ := ⟨_, rfl⟩
  replace H : (if 0 ≤ (ji5) then (if (ji5) ≤ (a0.size : Int) then (some (a0.extract 0 ((ji5) : Int).toNat)) else (none)) else (none)) = some r := by first | (rw [hji5] at H; exact H) | (simp only [hji5] at H ⊢; exact H)
  (try rw [hji5] at A3)
  have hji5w : (IntKind.i64.wrap ((a0.size : Int) - (a1.size : Int))) = ji5 := (i64_w _).trans hji5
  by_cases c6 : 0 ≤ (ji5)
  ·rw [if_pos c6] at H
   have c6b0 := eq_true c6
   have c6b1 : decide (0 ≤ (ji5)) = true := decide_eq_true c6
   clear c6
   by_cases c7 : (ji5) ≤ (a0.size : Int)
   ·rw [if_pos c7] at H
    have c7b0 := eq_true c7
    have c7b1 : decide ((ji5) ≤ (a0.size : Int)) = true := decide_eq_true c7
    clear c7
    obtain rfl := Option.some.inj H
    go_enter Tryd.func59, Tryd.ntmps59
    go_wp2_with (first | ((with_reducible refine gate_callee (f := 63) rfl ?_); refine goesL_ (some 7) rfl rfl Tryd.func63 (by kernel_rfl) rfl #[.string a0, .string a1] rfl argsOk ?_; (with_reducible refine (stringslite_HasSuffix.calls a0 a1 true _ A3.out).mono ?_); rintro e w' ⟨rfl, ⟨nd, rfl⟩⟩; refine ⟨_, rfl, ?_⟩))
    go_ret
    exact ⟨by first | rfl | (simp; done) | (simp only [← hji5] <;> (first | rfl | simp)) | (simp [*]; done) | (simp [*] <;> rfl) | (simp only [i64_w, i32_w, u8_w]; first | rfl | (simp [errW_none, errW_some] <;> rfl)) | (simp only [bne_nil, beq_nil]; first | rfl | (simp <;> rfl)), drawnNow⟩
   ·rw [if_neg c7] at H
    exact absurd H (by simp)
  ·rw [if_neg c6] at H
   exact absurd H (by simp)
 ·replace c4 := Bool.eq_false_iff.mpr c4
  subst c4
  have H1 : (some a0) = some r := by rw [if_neg (show ¬ (false = true) by decide)] at H; exact H
  clear H
  have H := H1
  clear H1
  obtain rfl := Option.some.inj H
  go_enter Tryd.func59, Tryd.ntmps59
  go_wp2_with (first | ((with_reducible refine gate_callee (f := 63) rfl ?_); refine goesL_ (some 7) rfl rfl Tryd.func63 (by kernel_rfl) rfl #[.string a0, .string a1] rfl argsOk ?_; (with_reducible refine (stringslite_HasSuffix.calls a0 a1 false _ A3.out).mono ?_); rintro e w' ⟨rfl, ⟨nd, rfl⟩⟩; refine ⟨_, rfl, ?_⟩))
  go_ret
  exact ⟨eqFin, drawnNow⟩
def strings_TrimSuffix.f (a0 : ByteArray) (a1 : ByteArray) : Option (ByteArray) := (stringslite_TrimSuffix.f a0 a1).bind fun t153 => (some t153)
set_option maxHeartbeats 8000000 in
set_option maxRecDepth 100000 in
theorem strings_TrimSuffix.calls (a0 : ByteArray) (a1 : ByteArray) (r : ByteArray) (w : World) (h : strings_TrimSuffix.f a0 a1 = some r) :
  Calls Tryd.prog 52 #[.string a0, .string a1] w fun e w' => e = .returned (.string r) ∧ Drawn0 w w' := by
 have H : ((stringslite_TrimSuffix.f a0 a1).bind fun t153 => (some t153)) = some r := h
 clear h
 replace H := Option.bind_eq_some_iff.mp H
 obtain ⟨t153, A30, H⟩ := H
 replace H : (some t153) = some r := H
 have A3 := Aside0.mk A30
 clear A30
 obtain rfl := Option.some.inj H
 go_enter Tryd.func52, Tryd.ntmps52
 go_wp2_with (first | ((with_reducible refine gate_callee (f := 59) rfl ?_); refine goesL_ (some 7) rfl rfl Tryd.func59 (by kernel_rfl) rfl #[.string a0, .string a1] rfl argsOk ?_; (with_reducible refine (stringslite_TrimSuffix.calls a0 a1 t153 _ A3.out).mono ?_); rintro e w' ⟨rfl, ⟨nd, rfl⟩⟩; refine ⟨_, rfl, ?_⟩))
 go_ret
 exact ⟨eqFin, drawnNow⟩
def lines_Bare.f (a0 : ByteArray) : Option (ByteArray) := (strings_TrimSuffix.f a0 (⟨#[10]⟩ : ByteArray)).bind fun t154 => (some t154)
set_option maxHeartbeats 8000000 in
set_option maxRecDepth 100000 in
theorem lines_Bare.calls (a0 : ByteArray) (r : ByteArray) (w : World) (h : lines_Bare.f a0 = some r) :
  Calls Tryd.prog 42 #[.string a0] w fun e w' => e = .returned (.string r) ∧ Drawn0 w w' := by
 have H : ((strings_TrimSuffix.f a0 (⟨#[10]⟩ : ByteArray)).bind fun t154 => (some t154)) = some r := h
 clear h
 replace H := Option.bind_eq_some_iff.mp H
 obtain ⟨t154, A20, H⟩ := H
 replace H : (some t154) = some r := H
 have A2 := Aside0.mk A20
 clear A20
 obtain rfl := Option.some.inj H
 go_enter Tryd.func42, Tryd.ntmps42
 go_wp2_with (first | ((with_reducible refine gate_callee (f := 52) rfl ?_); refine goesL_ (some 4) rfl rfl Tryd.func52 (by kernel_rfl) rfl #[.string a0, .string (⟨#[10]⟩ : ByteArray)] rfl argsOk ?_; (with_reducible refine (strings_TrimSuffix.calls a0 (⟨#[10]⟩ : ByteArray) t154 _ A2.out).mono ?_); rintro e w' ⟨rfl, ⟨nd, rfl⟩⟩; refine ⟨_, rfl, ?_⟩))
 go_ret
 exact ⟨eqFin, drawnNow⟩
def intern_Blank.f (a0 : ByteArray) : Option (Bool) := (lines_Bare.f a0).bind fun t155 => ((strings_Trim.f t155 (⟨#[9, 11, 12, 13, 32]⟩ : ByteArray)).bind fun t156 => (some (t156.toList == ([] : List UInt8))))
set_option maxHeartbeats 8000000 in
set_option maxRecDepth 100000 in
theorem intern_Blank.calls (a0 : ByteArray) (r : Bool) (w : World) (h : intern_Blank.f a0 = some r) :
  Calls Tryd.prog 36 #[.string a0] w fun e w' => e = .returned (.bool r) ∧ Below w.heap.size w w' := by
 have HB := Aside0.mk (Below.refl w.heap.size w)
 have H : ((lines_Bare.f a0).bind fun t155 => ((strings_Trim.f t155 (⟨#[9, 11, 12, 13, 32]⟩ : ByteArray)).bind fun t156 => (some (t156.toList == ([] : List UInt8))))) = some r := h
 clear h
 replace H := Option.bind_eq_some_iff.mp H
 obtain ⟨t155, A20, H⟩ := H
 replace H : ((strings_Trim.f t155 (⟨#[9, 11, 12, 13, 32]⟩ : ByteArray)).bind fun t156 => (some (t156.toList == ([] : List UInt8)))) = some r := H
 have A2 := Aside0.mk A20
 clear A20
 replace H := Option.bind_eq_some_iff.mp H
 obtain ⟨t156, A30, H⟩ := H
 replace H : (some (t156.toList == ([] : List UInt8))) = some r := H
 have A3 := Aside0.mk A30
 clear A30
 obtain rfl := Option.some.inj H
 go_enter Tryd.func36, Tryd.ntmps36
 go_wp2_with (first | ((with_reducible refine gate_callee (f := 42) rfl ?_); refine goesL_ (some 4) rfl rfl Tryd.func42 (by kernel_rfl) rfl #[.string a0] rfl argsOk ?_; (with_reducible refine (lines_Bare.calls a0 t155 _ A2.out).mono ?_); rintro e w' ⟨rfl, ⟨nd, rfl⟩⟩; refine ⟨_, rfl, ?_⟩) | ((with_reducible refine gate_callee (f := 41) rfl ?_); refine goesL_ (some 5) rfl rfl Tryd.func41 (by kernel_rfl) rfl #[.string t155, .string (⟨#[9, 11, 12, 13, 32]⟩ : ByteArray)] rfl argsOk ?_; (with_reducible refine (strings_Trim.calls t155 (⟨#[9, 11, 12, 13, 32]⟩ : ByteArray) t156 _ A3.out).mono ?_); rintro e w4 ⟨rfl, hb⟩; refine ⟨_, rfl, ?_⟩; have n0_ := Aside0.mk (below_step belNow hb); clear HB; have HB := n0_; clear n0_; (try clear hb); (try clear hb2); (try clear hk); (try clear hi)))
 go_ret
 exact ⟨eqEnd, belNow⟩
def slide_full.l0 : Nat → List ByteArray → Int → Int → Option (Bool)
 | 0, _, _, _ => none
 | k + 1, x5, x6, x7 => if x7 < x6 then (if 0 ≤ x7 then (if x7 < (x5.length : Int) then ((intern_Blank.f (rdOf ByteArray.empty x5 x7)).bind fun t158 => (if t158 = true then (slide_full.l0 k x5 x6 (wrap64 (x7 + 1))) else (some true))) else (none)) else (none)) else (some false)
def slide_full.f (k : Nat) (l0 : List ByteArray) : Option (Bool) := slide_full.l0 k l0 (l0.length : Int) 0
theorem slide_full.mono_l : ∀ k, (∀ y0 y1 y2, LeO (slide_full.l0 k y0 y1 y2) (slide_full.l0 (k + 1) y0 y1 y2))
 | 0 => fun _ _ _ r h => by simp [slide_full.l0] at h
 | k + 1 => by
  have ih0 := slide_full.mono_l k
  ·intro y0 y1 y2
   unfold slide_full.l0
   repeat' first
   | (with_reducible exact ih0 _ _ _)
   | (with_reducible exact LeO.refl _)
   | (with_reducible exact LeO.none _)
   | (with_reducible refine LeO.ite ?_ ?_)
   | (with_reducible refine LeO.bind ?_ (fun _ => ?_))
   | exact ih0 _ _ _
   | exact LeO.none _
   | refine LeO.ite ?_ ?_
   | refine LeO.bind ?_ (fun _ => ?_)
theorem slide_full.mono : ∀ a0 k, LeO (slide_full.f k a0) (slide_full.f (k + 1) a0) := by
 intro a0 k
 have ih0 := slide_full.mono_l k
 unfold slide_full.f
 repeat' first
   | (with_reducible exact ih0 _ _ _)
   | (with_reducible exact LeO.refl _)
   | (with_reducible exact LeO.none _)
   | (with_reducible refine LeO.ite ?_ ?_)
   | (with_reducible refine LeO.bind ?_ (fun _ => ?_))
   | exact ih0 _ _ _
   | exact LeO.none _
   | refine LeO.ite ?_ ?_
   | refine LeO.bind ?_ (fun _ => ?_)
set_option maxHeartbeats 8000000 in
set_option maxRecDepth 100000 in
theorem slide_full.calls (k : Nat) (A0 : Option Addr) (c0 : Nat) (l0 : List ByteArray) (r : Bool) (w : World) (hr0 : Kd.C Kd.string w A0 l0.length l0) (hc0 : l0.length ≤ c0) (h : slide_full.f k l0 = some r) :
  Calls Tryd.prog 25 #[.slice A0 l0.length c0] w fun e w' => e = .returned (.bool r) ∧ Below w.heap.size w w' := by
 have HR0 := Aside0.mk hr0
 have HC0 := Aside0.mk hc0
 clear hr0 hc0
 have HB := Aside0.mk (Below.refl w.heap.size w)
 have H : (slide_full.l0 k l0 (l0.length : Int) 0) = some r := h
 clear h
 have H' := Aside0.mk H
 clear H
 go_enter Tryd.func25, Tryd.ntmps25
 go_wp2
 go_loopg [7] k (fun kq v7 w' => ∃ (x7_1 : Int), v7 = .int .i64 x7_1 ∧ Aside0 (slide_full.l0 kq l0 (l0.length : Int) x7_1 = some r) ∧ Aside0 (kq ≤ k) ∧ Aside0 (Below w.heap.size w w'))
 case atStart => exact ⟨(0), eqNow, H', ⟨Nat.le_refl _⟩, ⟨belNow⟩⟩
 case round =>
  clear H'
  obtain ⟨x7_1, rfl, HA, HK1, HB⟩ := hrel
  cases gk with
  | zero => exact absurd HA.out (by simp [slide_full.l0])
  | succ k1 =>
   have H := HA.out
   clear HA
   simp only [slide_full.l0] at H
   by_cases c2 : x7_1 < (l0.length : Int)
   ·rw [if_pos c2] at H
    have c2b0 : decide (x7_1 < (l0.length : Int)) = true := decide_eq_true c2
    clear c2
    by_cases c3 : 0 ≤ x7_1
    ·rw [if_pos c3] at H
     have c3b0 : decide (0 ≤ x7_1) = true := decide_eq_true c3
     clear c3
     by_cases c4 : x7_1 < (l0.length : Int)
     ·rw [if_pos c4] at H
      have c4b0 : decide (x7_1 < (l0.length : Int)) = true := decide_eq_true c4
      clear c4
      replace H := Option.bind_eq_some_iff.mp H
      obtain ⟨t158, A50, H⟩ := H
      replace H : (if t158 = true then (slide_full.l0 k1 l0 (l0.length : Int) (wrap64 (x7_1 + 1))) else (some true)) = some r := H
      have A5 := Aside0.mk A50
      clear A50
      by_cases c6 : t158 = true
      ·subst c6
       have H1 : (slide_full.l0 k1 l0 (l0.length : Int) (wrap64 (x7_1 + 1))) = some r := by rw [if_pos rfl] at H; exact H
       clear H
       have H := H1
       clear H1
       have H' := Aside0.mk H
       clear H
       have p157 : 0 ≤ (x7_1 : Int) := ofDec
       have q157 : x7_1 < (l0.length : Int) := ofDec
       obtain ⟨ad157, e157, hx157_0⟩ := Kd.at_string HR0.out x7_1 p157 q157
       cases e157
       replace hx157_0 := (HB.out.cell (World.block_lt_of_cell? w _ hx157_0)).trans hx157_0
       replace p157 := eq_true p157
       replace q157 := eq_true q157
       go_wp2_with (first | ((with_reducible refine gate_callee (f := 36) rfl ?_); refine goesL_ (some 12) rfl rfl Tryd.func36 (by kernel_rfl) rfl #[.string (rdOf ByteArray.empty l0 x7_1)] rfl argsOk ?_; (with_reducible refine (intern_Blank.calls (rdOf ByteArray.empty l0 x7_1) true _ A5.out).mono ?_); rintro e w7 ⟨rfl, hb⟩; refine ⟨_, rfl, ?_⟩; have n0_ := Aside0.mk (below_step belNow hb); clear HB; have HB := n0_; clear n0_; (try clear hb); (try clear hb2); (try clear hk); (try clear hi)))
       go_roundg k1
       case measure => have := HK1.out; omega
       case rel => exact ⟨(wrap64 (x7_1 + 1)), eqNow, H', ⟨by have := HK1.out; omega⟩, ⟨belNow⟩⟩
      ·replace c6 := Bool.eq_false_iff.mpr c6
       subst c6
       have H1 : (some true) = some r := by rw [if_neg (show ¬ (false = true) by decide)] at H; exact H
       clear H
       have H := H1
       clear H1
       obtain rfl := Option.some.inj H
       have p157 : 0 ≤ (x7_1 : Int) := ofDec
       have q157 : x7_1 < (l0.length : Int) := ofDec
       obtain ⟨ad157, e157, hx157_0⟩ := Kd.at_string HR0.out x7_1 p157 q157
       cases e157
       replace hx157_0 := (HB.out.cell (World.block_lt_of_cell? w _ hx157_0)).trans hx157_0
       replace p157 := eq_true p157
       replace q157 := eq_true q157
       go_wp2_with (first | ((with_reducible refine gate_callee (f := 36) rfl ?_); refine goesL_ (some 12) rfl rfl Tryd.func36 (by kernel_rfl) rfl #[.string (rdOf ByteArray.empty l0 x7_1)] rfl argsOk ?_; (with_reducible refine (intern_Blank.calls (rdOf ByteArray.empty l0 x7_1) false _ A5.out).mono ?_); rintro e w8 ⟨rfl, hb⟩; refine ⟨_, rfl, ?_⟩; have n0_ := Aside0.mk (below_step belNow hb); clear HB; have HB := n0_; clear n0_; (try clear hb); (try clear hb2); (try clear hk); (try clear hi)))
       go_ret
       exact ⟨eqEnd, belNow⟩
     ·rw [if_neg c4] at H
      exact absurd H (by simp)
    ·rw [if_neg c3] at H
     exact absurd H (by simp)
   ·rw [if_neg c2] at H
    have c2b0 : decide (x7_1 < (l0.length : Int)) = false := decide_eq_false c2
    clear c2
    obtain rfl := Option.some.inj H
    go_wp2
    go_ret
    exact ⟨eqEnd, belNow⟩
def slide_Blanks.l0 : Nat → List ByteArray → List ByteArray → List (S43) → List (S43) → Int → Int → Option ((List (S43)) × Option Int)
 | 0, _, _, _, _, _, _ => none
 | k + 1, x1, x2, x10, x25, x26, x27 => if x27 < x26 then (if 0 ≤ x27 then (if x27 < (x25.length : Int) then (if 0 ≤ ((rd_T43 x25 x27).f0) then (if ((rd_T43 x25 x27).f0) ≤ (wrap64 (((rd_T43 x25 x27).f0) + ((rd_T43 x25 x27).f1))) then (if (wrap64 (((rd_T43 x25 x27).f0) + ((rd_T43 x25 x27).f1))) ≤ (x1.length : Int) then ((slide_full.f k ((x1.take ((wrap64 (((rd_T43 x25 x27).f0) + ((rd_T43 x25 x27).f1))) : Int).toNat).drop (((rd_T43 x25 x27).f0) : Int).toNat)).bind fun t167 => (if t167 = true then (if x10.length < 4398046511104 then (slide_Blanks.l0 k x1 x2 (x10 ++ [(⟨(rd_T43 x25 x27).f0, (rd_T43 x25 x27).f1, (rd_T43 x25 x27).f2, (rd_T43 x25 x27).f3⟩ : S43)]) x25 x26 (wrap64 (x27 + 1))) else (none)) else (if 0 ≤ ((rd_T43 x25 x27).f2) then (if ((rd_T43 x25 x27).f2) ≤ (wrap64 (((rd_T43 x25 x27).f2) + ((rd_T43 x25 x27).f3))) then (if (wrap64 (((rd_T43 x25 x27).f2) + ((rd_T43 x25 x27).f3))) ≤ (x2.length : Int) then ((slide_full.f k ((x2.take ((wrap64 (((rd_T43 x25 x27).f2) + ((rd_T43 x25 x27).f3))) : Int).toNat).drop (((rd_T43 x25 x27).f2) : Int).toNat)).bind fun t172 => (if t172 = true then (if x10.length < 4398046511104 then (slide_Blanks.l0 k x1 x2 (x10 ++ [(⟨(rd_T43 x25 x27).f0, (rd_T43 x25 x27).f1, (rd_T43 x25 x27).f2, (rd_T43 x25 x27).f3⟩ : S43)]) x25 x26 (wrap64 (x27 + 1))) else (none)) else (slide_Blanks.l0 k x1 x2 x10 x25 x26 (wrap64 (x27 + 1))))) else (none)) else (none)) else (none)))) else (none)) else (none)) else (none)) else (none)) else (none)) else (some (x10, none))
def slide_Blanks.f (k : Nat) (l0 : List (S43)) (l1 : List ByteArray) (l2 : List ByteArray) : Option ((List (S43)) × Option Int) := (edits_Normal.f k l0 (l1.length : Int) (l2.length : Int)).bind fun bt159 => (if bt159.2.isNone = true then (slide_Blanks.l0 k l1 l2 ([] : List (S43)) bt159.1 (bt159.1.length : Int) 0) else (some (([] : List (S43)), some (bt159.2.getD 0))))
theorem slide_Blanks.mono_l : ∀ k, (∀ y0 y1 y2 y3 y4 y5, LeO (slide_Blanks.l0 k y0 y1 y2 y3 y4 y5) (slide_Blanks.l0 (k + 1) y0 y1 y2 y3 y4 y5))
 | 0 => fun _ _ _ _ _ _ r h => by simp [slide_Blanks.l0] at h
 | k + 1 => by
  have ih0 := slide_Blanks.mono_l k
  ·intro y0 y1 y2 y3 y4 y5
   unfold slide_Blanks.l0
   repeat' first
   | (with_reducible exact ih0 _ _ _ _ _ _)
   | (with_reducible exact edits_Normal.mono _ _ _ _)
   | (with_reducible exact slide_full.mono _ _)
   | (with_reducible exact LeO.refl _)
   | (with_reducible exact LeO.none _)
   | (with_reducible refine LeO.ite ?_ ?_)
   | (with_reducible refine LeO.bind ?_ (fun _ => ?_))
   | exact ih0 _ _ _ _ _ _
   | exact edits_Normal.mono _ _ _ _
   | exact slide_full.mono _ _
   | exact LeO.none _
   | refine LeO.ite ?_ ?_
   | refine LeO.bind ?_ (fun _ => ?_)
theorem slide_Blanks.mono : ∀ a0 a1 a2 k, LeO (slide_Blanks.f k a0 a1 a2) (slide_Blanks.f (k + 1) a0 a1 a2) := by
 intro a0 a1 a2 k
 have ih0 := slide_Blanks.mono_l k
 unfold slide_Blanks.f
 repeat' first
   | (with_reducible exact ih0 _ _ _ _ _ _)
   | (with_reducible exact edits_Normal.mono _ _ _ _)
   | (with_reducible exact slide_full.mono _ _)
   | (with_reducible exact LeO.refl _)
   | (with_reducible exact LeO.none _)
   | (with_reducible refine LeO.ite ?_ ?_)
   | (with_reducible refine LeO.bind ?_ (fun _ => ?_))
   | exact ih0 _ _ _ _ _ _
   | exact edits_Normal.mono _ _ _ _
   | exact slide_full.mono _ _
   | exact LeO.none _
   | refine LeO.ite ?_ ?_
   | refine LeO.bind ?_ (fun _ => ?_)
set_option maxHeartbeats 8000000 in
set_option maxRecDepth 100000 in
theorem slide_Blanks.calls (k : Nat) (A0 : Option Addr) (c0 : Nat) (l0 : List (S43)) (A1 : Option Addr) (c1 : Nat) (l1 : List ByteArray) (A2 : Option Addr) (c2 : Nat) (l2 : List ByteArray) (r1 : List (S43)) (r2 : Option Int) (w : World) (hr0 : Kd.C k43 w A0 l0.length l0) (hc0 : l0.length ≤ c0) (hr1 : Kd.C Kd.string w A1 l1.length l1) (hc1 : l1.length ≤ c1) (hr2 : Kd.C Kd.string w A2 l2.length l2) (hc2 : l2.length ≤ c2) (h : slide_Blanks.f k l0 l1 l2 = some (r1, r2)) :
  Calls Tryd.prog 15 #[.slice A0 l0.length c0, .slice A1 l1.length c1, .slice A2 l2.length c2] w fun e w' => ∃ v0_ : Value, e = .returned (.tuple #[v0_, errW r2]) ∧ Kd.R k43 43 w' w.heap.size (fun _ => True) v0_ r1 ∧ Below w.heap.size w w' := by
 have hu43 := Tryd.underlying43
 have hu25 := Tryd.underlying25
 have hu49 := Tryd.underlying49
 have HR0 := Aside0.mk hr0
 have HC0 := Aside0.mk hc0
 clear hr0 hc0
 have HR1 := Aside0.mk hr1
 have HC1 := Aside0.mk hc1
 clear hr1 hc1
 have HR2 := Aside0.mk hr2
 have HC2 := Aside0.mk hc2
 clear hr2 hc2
 have HB := Aside0.mk (Below.refl w.heap.size w)
 have H : ((edits_Normal.f k l0 (l1.length : Int) (l2.length : Int)).bind fun bt159 => (if bt159.2.isNone = true then (slide_Blanks.l0 k l1 l2 ([] : List (S43)) bt159.1 (bt159.1.length : Int) 0) else (some (([] : List (S43)), some (bt159.2.getD 0))))) = some (r1, r2) := h
 clear h
 replace H := Option.bind_eq_some_iff.mp H
 obtain ⟨⟨t159, t160⟩, A40, H⟩ := H
 replace H : (if t160.isNone = true then (slide_Blanks.l0 k l1 l2 ([] : List (S43)) t159 (t159.length : Int) 0) else (some (([] : List (S43)), some (t160.getD 0)))) = some (r1, r2) := H
 have A4 := Aside0.mk A40
 clear A40
 rcases t160 with _ | q163
 ·have H1 : (slide_Blanks.l0 k l1 l2 ([] : List (S43)) t159 (t159.length : Int) 0) = some (r1, r2) := by rw [if_pos (show (none : Option Int).isNone = true by rfl)] at H; exact H
  clear H
  have H := H1
  clear H1
  try simp only [errW_none, errW_some]
  have H' := Aside0.mk H
  clear H
  go_enter Tryd.func15, Tryd.ntmps15
  go_wp2_with (first | ((with_reducible refine gate_callee (f := 18) rfl ?_); refine goesL_ (some 19) rfl rfl Tryd.func18 (by kernel_rfl) rfl #[.slice A0 l0.length c0, .int .i64 (l1.length : Int), .int .i64 (l2.length : Int)] rfl argsOk ?_; (with_reducible refine (edits_Normal.calls k _ _ l0 (l1.length : Int) (l2.length : Int) t159 none _ ?side1 ?side2 A4.out).mono ?_); (case side1 => repeat (first | exact HR0.out | (with_reducible refine Kd.C_alloc ?_ _) | (with_reducible refine Kd.C_drewN ?_ _) | (with_reducible refine Kd.C_drew ?_))); (case side2 => exact HC0.out); rintro e w5 ⟨v161, rfl, ho0, hb⟩; refine ⟨_, rfl, ?_⟩; have n0_ := Aside0.mk (Kd.R_lower ho0 (below_size belNow)); have n1_ := Aside0.mk (below_step belNow hb); clear HB; have HO162 := n0_; have HB := n1_; clear n0_ n1_; (try clear hb); (try clear hb2); (try clear hk); (try clear hi); (try clear ho0); (try simp only [errW_none, errW_some]); obtain ⟨Ao6, co6, eo6⟩ := Kd.R_slice HO162.out; subst eo6))
  go_loopg [10, 27] k (fun kq v10 v27 w' => ∃ (x10_1 : List (S43)) (x27_1 : Int), v27 = .int .i64 x27_1 ∧ Aside0 (slide_Blanks.l0 kq l1 l2 x10_1 t159 (t159.length : Int) x27_1 = some (r1, r2)) ∧ Aside0 (kq ≤ k) ∧ Aside0 (Kd.R k43 43 w' w.heap.size (fun k_ => some k_ ≠ ((.slice Ao6 t159.length co6) : Value).ownBlock) v10 x10_1) ∧ Aside0 (Kd.R k43 43 w' w.heap.size (fun k_ => some k_ ≠ (v10 : Value).ownBlock) (.slice Ao6 t159.length co6) t159) ∧ Aside0 (Below w.heap.size w w'))
  case atStart => exact ⟨(([] : List (S43))), (0), eqNow, H', ⟨Nat.le_refl _⟩, ⟨by first | exact Kd.R_nil _ _ _ _ _ | exact Kd.N_nil _ _ _ _ _ | exact Kd.V_nil _ _ _ _ _ | exact Kd.Q_nil _ _ _ _ _ | exact Kd.S_nil _ _ _ _ _⟩, ⟨by (with_reducible repeat (first | apply Kd.R_alloc | apply Kd.R_drewN | apply Kd.R_drew)); exact Kd.R_mono HO162.out (fun _ hk => (by simp [Value.ownBlock]))⟩, ⟨belNow⟩⟩
  case round =>
   clear H'
   try clear c1
   try clear q1
   try clear c2
   try clear p2
   try clear q163
   obtain ⟨x10_1, x27_1, rfl, HA, HK1, HO_10, HO_25, HB⟩ := hrel
   cases gk with
   | zero => exact absurd HA.out (by simp [slide_Blanks.l0])
   | succ k1 =>
    have H := HA.out
    clear HA
    simp only [slide_Blanks.l0] at H
    by_cases c7 : x27_1 < (t159.length : Int)
    ·rw [if_pos c7] at H
     have c7b0 : decide (x27_1 < (t159.length : Int)) = true := decide_eq_true c7
     clear c7
     by_cases c8 : 0 ≤ x27_1
     ·rw [if_pos c8] at H
      have c8b0 : decide (0 ≤ x27_1) = true := decide_eq_true c8
      clear c8
      by_cases c9 : x27_1 < (t159.length : Int)
      ·rw [if_pos c9] at H
       have c9b0 : decide (x27_1 < (t159.length : Int)) = true := decide_eq_true c9
       clear c9
       by_cases c10 : 0 ≤ ((rd_T43 t159 x27_1).f0)
       ·rw [if_pos c10] at H
        have c10b0 := eq_true c10
        have c10b1 : decide (0 ≤ ((rd_T43 t159 x27_1).f0)) = true := decide_eq_true c10
        clear c10
        by_cases c11 : ((rd_T43 t159 x27_1).f0) ≤ (wrap64 (((rd_T43 t159 x27_1).f0) + ((rd_T43 t159 x27_1).f1)))
        ·rw [if_pos c11] at H
         have c11b0 := eq_true c11
         have c11b1 : decide (((rd_T43 t159 x27_1).f0) ≤ (wrap64 (((rd_T43 t159 x27_1).f0) + ((rd_T43 t159 x27_1).f1)))) = true := decide_eq_true c11
         by_cases c12 : (wrap64 (((rd_T43 t159 x27_1).f0) + ((rd_T43 t159 x27_1).f1))) ≤ (l1.length : Int)
         ·rw [if_pos c12] at H
          have c12b0 := eq_true c12
          have c12b1 : decide ((wrap64 (((rd_T43 t159 x27_1).f0) + ((rd_T43 t159 x27_1).f1))) ≤ (l1.length : Int)) = true := decide_eq_true c12
          replace H := Option.bind_eq_some_iff.mp H
          obtain ⟨t167, A130, H⟩ := H
          replace H : (if t167 = true then (if x10_1.length < 4398046511104 then (slide_Blanks.l0 k1 l1 l2 (x10_1 ++ [(⟨(rd_T43 t159 x27_1).f0, (rd_T43 t159 x27_1).f1, (rd_T43 t159 x27_1).f2, (rd_T43 t159 x27_1).f3⟩ : S43)]) t159 (t159.length : Int) (wrap64 (x27_1 + 1))) else (none)) else (if 0 ≤ ((rd_T43 t159 x27_1).f2) then (if ((rd_T43 t159 x27_1).f2) ≤ (wrap64 (((rd_T43 t159 x27_1).f2) + ((rd_T43 t159 x27_1).f3))) then (if (wrap64 (((rd_T43 t159 x27_1).f2) + ((rd_T43 t159 x27_1).f3))) ≤ (l2.length : Int) then ((slide_full.f k1 ((l2.take ((wrap64 (((rd_T43 t159 x27_1).f2) + ((rd_T43 t159 x27_1).f3))) : Int).toNat).drop (((rd_T43 t159 x27_1).f2) : Int).toNat)).bind fun t172 => (if t172 = true then (if x10_1.length < 4398046511104 then (slide_Blanks.l0 k1 l1 l2 (x10_1 ++ [(⟨(rd_T43 t159 x27_1).f0, (rd_T43 t159 x27_1).f1, (rd_T43 t159 x27_1).f2, (rd_T43 t159 x27_1).f3⟩ : S43)]) t159 (t159.length : Int) (wrap64 (x27_1 + 1))) else (none)) else (slide_Blanks.l0 k1 l1 l2 x10_1 t159 (t159.length : Int) (wrap64 (x27_1 + 1))))) else (none)) else (none)) else (none))) = some (r1, r2) := H
          have A13 := Aside0.mk A130
          clear A130
          by_cases c14 : t167 = true
          ·subst c14
           have H1 : (if x10_1.length < 4398046511104 then (slide_Blanks.l0 k1 l1 l2 (x10_1 ++ [(⟨(rd_T43 t159 x27_1).f0, (rd_T43 t159 x27_1).f1, (rd_T43 t159 x27_1).f2, (rd_T43 t159 x27_1).f3⟩ : S43)]) t159 (t159.length : Int) (wrap64 (x27_1 + 1))) else (none)) = some (r1, r2) := by rw [if_pos rfl] at H; exact H
           clear H
           have H := H1
           clear H1
           by_cases c15 : x10_1.length < 4398046511104
           ·rw [if_pos c15] at H
            have LMc15 := Aside0.mk c15
            clear c15
            obtain ⟨y168, hy168⟩ : ∃ y_ : List (S43), y_ = (x10_1 ++ [(⟨(rd_T43 t159 x27_1).f0, (rd_T43 t159 x27_1).f1, (rd_T43 t159 x27_1).f2, (rd_T43 t159 x27_1).f3⟩ : S43)]) := ⟨_, rfl⟩
            replace H : (slide_Blanks.l0 k1 l1 l2 y168 t159 (t159.length : Int) (wrap64 (x27_1 + 1))) = some (r1, r2) := by first | (rw [hy168]; with_reducible exact H) | (have H2_ := (Option.bind_some _ _).symm.trans H; rw [hy168]; with_reducible exact H2_) | (have H2_ := (Option.bind_some _ _).symm.trans H; with_reducible exact H2_) | with_reducible exact H | (rw [hy168]; exact H) | exact H
            have Ny168 := Aside0.mk hy168
            clear hy168
            have H' := Aside0.mk H
            clear H
            have p164 : 0 ≤ (x27_1 : Int) := ofDec
            have q164 : x27_1 < (t159.length : Int) := ofDec
            obtain ⟨ad164, e164, hx164_0, hx164_1, hx164_2, hx164_3⟩ := at_T43 (Kd.R_reads' HO_25.out).2.2 x27_1 p164 q164
            cases e164
            replace p164 := eq_true p164
            replace q164 := eq_true q164
            go_wp2_with (first | ((with_reducible refine gate_dst (N := 12) rfl ?_); refine box_event ?hg (N := 12) ?hd (cs := #[.int .i64 0, .int .i64 0, .int .i64 0, .int .i64 0]) (t := 43) ?hr ?_; (case hd => rfl); (case hg => rfl); (case hr => first | (go_simp; done) | (go_simp; rfl)); intro gb165 hg w16 hbox hb; have n0_ := Aside0.mk (Kd.R_below (Kd.R_elderB (kdUp HO_10.out) gb165 (Nat.le_of_eq hg.symm)) hb); have n1_ := Aside0.mk (Kd.R_below (Kd.R_elderB (kdUp HO_25.out) gb165 (Nat.le_of_eq hg.symm)) hb); have n2_ := Aside0.mk (below_step belNow hb); have n3_ := Aside0.mk (hbox); have n4_ := Aside0.mk ((by rw [hg]; exact (below_size belNow) : w.heap.size ≤ gb165)); have n5_ := Aside0.mk ((by rw [hg]; exact (below_size belNow) : w.heap.size ≤ gb165)); clear HO_10; clear HO_25; clear HB; have HO_10 := n0_; have HO_25 := n1_; have HB := n2_; have BK165 := n3_; have GW165 := n4_; have GE165 := n5_; clear n0_ n1_ n2_ n3_ n4_ n5_; clear hb hbox hg; have hcz17_0 : w16.cell? ⟨gb165, 0, none⟩ = some (.int .i64 0) := (blk_cell BK165.out 0).trans rfl; have hcz17_1 : w16.cell? ⟨gb165, 1, none⟩ = some (.int .i64 0) := (blk_cell BK165.out 1).trans rfl; have hcz17_2 : w16.cell? ⟨gb165, 2, none⟩ = some (.int .i64 0) := (blk_cell BK165.out 2).trans rfl; have hcz17_3 : w16.cell? ⟨gb165, 3, none⟩ = some (.int .i64 0) := (blk_cell BK165.out 3).trans rfl; have hfz17_0 := blk_frozen BK165.out 0; have hfz17_1 := blk_frozen BK165.out 1; have hfz17_2 := blk_frozen BK165.out 2; have hfz17_3 := blk_frozen BK165.out 3; obtain ⟨i018, hi018, _, hsz18, _⟩ := info_parts info9; obtain ⟨A18, hcut18, hA18, hC18⟩ := print_mid_of (P := Tryd.prog) Value.string (⟨#[]⟩ : ByteArray) 38 9 .i64 .i64 Tryd.underlying38 hi018 hsz18 A1 c1 l1 ((rd_T43 t159 x27_1).f0) (wrap64 (((rd_T43 t159 x27_1).f0) + ((rd_T43 t159 x27_1).f1))) (ofDec) (by first | omega | exact ofDec) (ofDec) HC1.out; have HR166 := Aside0.mk (Kd.C_of_reads (h1 := fun _ => rfl) (hA18 _ (Kd.reads_of_C HR1.out))); have HC166 := Aside0.mk hC18; clear hA18 hC18 hi018 hsz18) | ((with_reducible refine gate_callee (f := 25) rfl ?_); refine goesL_ (some 40) rfl rfl Tryd.func25 (by kernel_rfl) rfl #[.slice A18 ((l1.take ((wrap64 (((rd_T43 t159 x27_1).f0) + ((rd_T43 t159 x27_1).f1))) : Int).toNat).drop (((rd_T43 t159 x27_1).f0) : Int).toNat).length (c1 - ((rd_T43 t159 x27_1).f0).toNat)] rfl (by (try simp only [List.map_toArray, List.map_cons, List.map_nil]); first | done | (rw [show ((l1.take ((wrap64 (((rd_T43 t159 x27_1).f0) + ((rd_T43 t159 x27_1).f1))) : Int).toNat).drop (((rd_T43 t159 x27_1).f0) : Int).toNat).length = ((wrap64 (((rd_T43 t159 x27_1).f0) + ((rd_T43 t159 x27_1).f1))).toNat - ((rd_T43 t159 x27_1).f0).toNat) from (by rw [List.length_drop, List.length_take]; have h_ : ((wrap64 (((rd_T43 t159 x27_1).f0) + ((rd_T43 t159 x27_1).f1))) : Int) ≤ (l1.length : Int) := ofDec; omega)] <;> rfl) | rfl | (simp only [List.length_drop, List.length_take]; rfl)) ?_; (with_reducible refine (slide_full.calls k1 _ _ ((l1.take ((wrap64 (((rd_T43 t159 x27_1).f0) + ((rd_T43 t159 x27_1).f1))) : Int).toNat).drop (((rd_T43 t159 x27_1).f0) : Int).toNat) true _ ?side1 ?side2 A13.out).mono ?_); (case side1 => exact Kd.C_below HR166.out (belPut)); (case side2 => exact HC166.out); rintro e w19 ⟨rfl, hb⟩; refine ⟨_, rfl, ?_⟩; have n0_ := Aside0.mk (Kd.R_below (by (with_reducible repeat (first | apply Kd.R_alloc | apply Kd.R_drewN | apply Kd.R_drew)); exact (Kd.R_mono (Kd.R_far (p := ⟨gb165, 3, none⟩) (Kd.R_far (p := ⟨gb165, 2, none⟩) (Kd.R_far (p := ⟨gb165, 1, none⟩) (Kd.R_far (p := ⟨gb165, 0, none⟩) (Kd.R_mono HO_10.out (fun k_ hk => (⟨hk, hk.2⟩ : _ ∧ k_ ≠ gb165))) (fun _ hk => hk.2) (.int .i64 ((rd_T43 t159 x27_1).f0))) (fun _ hk => hk.2) (.int .i64 ((rd_T43 t159 x27_1).f1))) (fun _ hk => hk.2) (.int .i64 ((rd_T43 t159 x27_1).f2))) (fun _ hk => hk.2) (.int .i64 ((rd_T43 t159 x27_1).f3))) (fun _ h_ => h_.1))) hb); have n1_ := Aside0.mk (Kd.R_below (by (with_reducible repeat (first | apply Kd.R_alloc | apply Kd.R_drewN | apply Kd.R_drew)); exact (Kd.R_mono (Kd.R_far (p := ⟨gb165, 3, none⟩) (Kd.R_far (p := ⟨gb165, 2, none⟩) (Kd.R_far (p := ⟨gb165, 1, none⟩) (Kd.R_far (p := ⟨gb165, 0, none⟩) (Kd.R_mono HO_25.out (fun k_ hk => (⟨hk, hk.2⟩ : _ ∧ k_ ≠ gb165))) (fun _ hk => hk.2) (.int .i64 ((rd_T43 t159 x27_1).f0))) (fun _ hk => hk.2) (.int .i64 ((rd_T43 t159 x27_1).f1))) (fun _ hk => hk.2) (.int .i64 ((rd_T43 t159 x27_1).f2))) (fun _ hk => hk.2) (.int .i64 ((rd_T43 t159 x27_1).f3))) (fun _ h_ => h_.1))) hb); have n2_ := Aside0.mk (blk_below (g := gb165) (o := .cells #[.int .i64 ((rd_T43 t159 x27_1).f0), .int .i64 ((rd_T43 t159 x27_1).f1), .int .i64 ((rd_T43 t159 x27_1).f2), .int .i64 ((rd_T43 t159 x27_1).f3)] 43 (0, 0)) (by (with_reducible repeat (first | refine blk_drewN ?_ _ | refine blk_drew ?_ | refine blk_alloc ?_ _)); refine blk_put (cs := #[.int .i64 ((rd_T43 t159 x27_1).f0), .int .i64 ((rd_T43 t159 x27_1).f1), .int .i64 ((rd_T43 t159 x27_1).f2), .int .i64 0]) ?_ 3 _ rfl; (with_reducible repeat (first | refine blk_drewN ?_ _ | refine blk_drew ?_ | refine blk_alloc ?_ _)); refine blk_put (cs := #[.int .i64 ((rd_T43 t159 x27_1).f0), .int .i64 ((rd_T43 t159 x27_1).f1), .int .i64 0, .int .i64 0]) ?_ 2 _ rfl; (with_reducible repeat (first | refine blk_drewN ?_ _ | refine blk_drew ?_ | refine blk_alloc ?_ _)); refine blk_put (cs := #[.int .i64 ((rd_T43 t159 x27_1).f0), .int .i64 0, .int .i64 0, .int .i64 0]) ?_ 1 _ rfl; (with_reducible repeat (first | refine blk_drewN ?_ _ | refine blk_drew ?_ | refine blk_alloc ?_ _)); refine blk_put (cs := #[.int .i64 0, .int .i64 0, .int .i64 0, .int .i64 0]) ?_ 0 _ rfl; (with_reducible repeat (first | refine blk_drewN ?_ _ | refine blk_drew ?_ | refine blk_alloc ?_ _)); exact BK165.out) hb); have n3_ := Aside0.mk (below_step (belPut) hb); clear HO_10; clear HO_25; clear BK165; clear HB; have HO_10 := n0_; have HO_25 := n1_; have BK165 := n2_; have HB := n3_; clear n0_ n1_ n2_ n3_; (try clear hb); (try clear hb2); (try clear hk); (try clear hi); have hcz20_0 : w19.cell? ⟨gb165, 0, none⟩ = some (.int .i64 ((rd_T43 t159 x27_1).f0)) := (blk_cell BK165.out 0).trans rfl; have hcz20_1 : w19.cell? ⟨gb165, 1, none⟩ = some (.int .i64 ((rd_T43 t159 x27_1).f1)) := (blk_cell BK165.out 1).trans rfl; have hcz20_2 : w19.cell? ⟨gb165, 2, none⟩ = some (.int .i64 ((rd_T43 t159 x27_1).f2)) := (blk_cell BK165.out 2).trans rfl; have hcz20_3 : w19.cell? ⟨gb165, 3, none⟩ = some (.int .i64 ((rd_T43 t159 x27_1).f3)) := (blk_cell BK165.out 3).trans rfl; have hfz20_0 := blk_frozen BK165.out 0; have hfz20_1 := blk_frozen BK165.out 1; have hfz20_2 := blk_frozen BK165.out 2; have hfz20_3 := blk_frozen BK165.out 3) | ((with_reducible refine gate_builtin (b := .append) (xs := #[.tmp 53, .tmp 55]) rfl ?_); at_builtin; refine Kd.R_append k43 (w0 := w) w.heap.size rfl (.tmp 53) (.tmp 55) 22 43 (.agg #[(.int .i64 0), (.int .i64 0), (.int .i64 0), (.int .i64 0)]) 32 rfl Tryd.underlying22 info43 rfl (by decide) (by omega) u10 x10_1 (⟨(rd_T43 t159 x27_1).f0, (rd_T43 t159 x27_1).f1, (rd_T43 t159 x27_1).f2, (rd_T43 t159 x27_1).f3⟩ : S43) [.int .i64 ((rd_T43 t159 x27_1).f0), .int .i64 ((rd_T43 t159 x27_1).f1), .int .i64 ((rd_T43 t159 x27_1).f2), .int .i64 ((rd_T43 t159 x27_1).f3)] (fun k_ => some k_ ≠ (.slice (some ad164) t159.length co6 : Value).ownBlock ∧ k_ ≠ gb165) (fun _ => False) rfl rfl ?aP (fun _ hk => hk.elim) ?aF ?aO ?aB ?aS ?aL ?_; (case aP => exact k43_mkM _ _ _ (⟨(rd_T43 t159 x27_1).f0, (rd_T43 t159 x27_1).f1, (rd_T43 t159 x27_1).f2, (rd_T43 t159 x27_1).f3⟩ : S43)); (case aB => exact (belPut)); (case aF => exact (fun k_ hk => ⟨Kd.fresh' (Kd.R_lt (kdUp HO_25.out)) k_ hk, Kd.freshB (g := gb165) (o := .cells #[.int .i64 ((rd_T43 t159 x27_1).f0), .int .i64 ((rd_T43 t159 x27_1).f1), .int .i64 ((rd_T43 t159 x27_1).f2), .int .i64 ((rd_T43 t159 x27_1).f3)] 43 (0, 0)) (bkUp BK165.out) k_ hk⟩)); (case aO => exact (kdUp HO_10.out)); (case aS => exact (below_size (belPut))); (case aL => have := LMc15.out; omega); intro v169 w21 ho hb hg hat; rw [← Ny168.out] at ho; have n0_ := Aside0.mk (Kd.R_after (ok := (fun k_ => k_ ≠ gb165)) (by (with_reducible repeat (first | apply Kd.R_alloc | apply Kd.R_drewN | apply Kd.R_drew)); exact Kd.R_mono HO_25.out (fun _ hk => ⟨hk.2, hk.1⟩)) hg hat); have n1_ := Aside0.mk (blk_grown (g := gb165) (o := .cells #[.int .i64 ((rd_T43 t159 x27_1).f0), .int .i64 ((rd_T43 t159 x27_1).f1), .int .i64 ((rd_T43 t159 x27_1).f2), .int .i64 ((rd_T43 t159 x27_1).f3)] 43 (0, 0)) (bkUp BK165.out) hg (Kd.R_away HO_10.out (fun _ hk => hk.2))); have n2_ := Aside0.mk (hb); have n3_ := Aside0.mk (ho); clear HO_25; clear BK165; clear HB; clear HO_10; have HO_25 := n0_; have BK165 := n1_; have HB := n2_; have HO170 := n3_; clear n0_ n1_ n2_ n3_; clear ho hb hg hat))
            go_roundg k1
            case measure => have := HK1.out; omega
            case rel => exact ⟨(y168), (wrap64 (x27_1 + 1)), eqNow, H', ⟨by have := HK1.out; omega⟩, ⟨by (with_reducible repeat (first | apply Kd.R_alloc | apply Kd.R_drewN | apply Kd.R_drew)); exact Kd.R_mono HO170.out (fun _ hk => hk.1)⟩, ⟨by (with_reducible repeat (first | apply Kd.R_alloc | apply Kd.R_drewN | apply Kd.R_drew)); exact Kd.R_mono HO_25.out (fun _ hk => hk.2)⟩, ⟨belPut⟩⟩
           ·rw [if_neg c15] at H
            exact absurd H (by simp)
          ·replace c14 := Bool.eq_false_iff.mpr c14
           subst c14
           have H1 : (if 0 ≤ ((rd_T43 t159 x27_1).f2) then (if ((rd_T43 t159 x27_1).f2) ≤ (wrap64 (((rd_T43 t159 x27_1).f2) + ((rd_T43 t159 x27_1).f3))) then (if (wrap64 (((rd_T43 t159 x27_1).f2) + ((rd_T43 t159 x27_1).f3))) ≤ (l2.length : Int) then ((slide_full.f k1 ((l2.take ((wrap64 (((rd_T43 t159 x27_1).f2) + ((rd_T43 t159 x27_1).f3))) : Int).toNat).drop (((rd_T43 t159 x27_1).f2) : Int).toNat)).bind fun t172 => (if t172 = true then (if x10_1.length < 4398046511104 then (slide_Blanks.l0 k1 l1 l2 (x10_1 ++ [(⟨(rd_T43 t159 x27_1).f0, (rd_T43 t159 x27_1).f1, (rd_T43 t159 x27_1).f2, (rd_T43 t159 x27_1).f3⟩ : S43)]) t159 (t159.length : Int) (wrap64 (x27_1 + 1))) else (none)) else (slide_Blanks.l0 k1 l1 l2 x10_1 t159 (t159.length : Int) (wrap64 (x27_1 + 1))))) else (none)) else (none)) else (none)) = some (r1, r2) := by rw [if_neg (show ¬ (false = true) by decide)] at H; exact H
           clear H
           have H := H1
           clear H1
           by_cases c22 : 0 ≤ ((rd_T43 t159 x27_1).f2)
           ·rw [if_pos c22] at H
            have c22b0 := eq_true c22
            have c22b1 : decide (0 ≤ ((rd_T43 t159 x27_1).f2)) = true := decide_eq_true c22
            clear c22
            by_cases c23 : ((rd_T43 t159 x27_1).f2) ≤ (wrap64 (((rd_T43 t159 x27_1).f2) + ((rd_T43 t159 x27_1).f3)))
            ·rw [if_pos c23] at H
             have c23b0 := eq_true c23
             have c23b1 : decide (((rd_T43 t159 x27_1).f2) ≤ (wrap64 (((rd_T43 t159 x27_1).f2) + ((rd_T43 t159 x27_1).f3)))) = true := decide_eq_true c23
             by_cases c24 : (wrap64 (((rd_T43 t159 x27_1).f2) + ((rd_T43 t159 x27_1).f3))) ≤ (l2.length : Int)
             ·rw [if_pos c24] at H
              have c24b0 := eq_true c24
              have c24b1 : decide ((wrap64 (((rd_T43 t159 x27_1).f2) + ((rd_T43 t159 x27_1).f3))) ≤ (l2.length : Int)) = true := decide_eq_true c24
              replace H := Option.bind_eq_some_iff.mp H
              obtain ⟨t172, A250, H⟩ := H
              replace H : (if t172 = true then (if x10_1.length < 4398046511104 then (slide_Blanks.l0 k1 l1 l2 (x10_1 ++ [(⟨(rd_T43 t159 x27_1).f0, (rd_T43 t159 x27_1).f1, (rd_T43 t159 x27_1).f2, (rd_T43 t159 x27_1).f3⟩ : S43)]) t159 (t159.length : Int) (wrap64 (x27_1 + 1))) else (none)) else (slide_Blanks.l0 k1 l1 l2 x10_1 t159 (t159.length : Int) (wrap64 (x27_1 + 1)))) = some (r1, r2) := H
              have A25 := Aside0.mk A250
              clear A250
              by_cases c26 : t172 = true
              ·subst c26
               have H1 : (if x10_1.length < 4398046511104 then (slide_Blanks.l0 k1 l1 l2 (x10_1 ++ [(⟨(rd_T43 t159 x27_1).f0, (rd_T43 t159 x27_1).f1, (rd_T43 t159 x27_1).f2, (rd_T43 t159 x27_1).f3⟩ : S43)]) t159 (t159.length : Int) (wrap64 (x27_1 + 1))) else (none)) = some (r1, r2) := by rw [if_pos rfl] at H; exact H
               clear H
               have H := H1
               clear H1
               by_cases c27 : x10_1.length < 4398046511104
               ·rw [if_pos c27] at H
                have LMc27 := Aside0.mk c27
                clear c27
                obtain ⟨y173, hy173⟩ : ∃ y_ : List (S43), y_ = (x10_1 ++ [(⟨(rd_T43 t159 x27_1).f0, (rd_T43 t159 x27_1).f1, (rd_T43 t159 x27_1).f2, (rd_T43 t159 x27_1).f3⟩ : S43)]) := ⟨_, rfl⟩
                replace H : (slide_Blanks.l0 k1 l1 l2 y173 t159 (t159.length : Int) (wrap64 (x27_1 + 1))) = some (r1, r2) := by first | (rw [hy173]; with_reducible exact H) | (have H2_ := (Option.bind_some _ _).symm.trans H; rw [hy173]; with_reducible exact H2_) | (have H2_ := (Option.bind_some _ _).symm.trans H; with_reducible exact H2_) | with_reducible exact H | (rw [hy173]; exact H) | exact H
                have Ny173 := Aside0.mk hy173
                clear hy173
                have H' := Aside0.mk H
                clear H
                have p164 : 0 ≤ (x27_1 : Int) := ofDec
                have q164 : x27_1 < (t159.length : Int) := ofDec
                obtain ⟨ad164, e164, hx164_0, hx164_1, hx164_2, hx164_3⟩ := at_T43 (Kd.R_reads' HO_25.out).2.2 x27_1 p164 q164
                cases e164
                replace p164 := eq_true p164
                replace q164 := eq_true q164
                go_wp2_with (first | ((with_reducible refine gate_dst (N := 12) rfl ?_); refine box_event ?hg (N := 12) ?hd (cs := #[.int .i64 0, .int .i64 0, .int .i64 0, .int .i64 0]) (t := 43) ?hr ?_; (case hd => rfl); (case hg => rfl); (case hr => first | (go_simp; done) | (go_simp; rfl)); intro gb165 hg w28 hbox hb; have n0_ := Aside0.mk (Kd.R_below (Kd.R_elderB (kdUp HO_10.out) gb165 (Nat.le_of_eq hg.symm)) hb); have n1_ := Aside0.mk (Kd.R_below (Kd.R_elderB (kdUp HO_25.out) gb165 (Nat.le_of_eq hg.symm)) hb); have n2_ := Aside0.mk (below_step belNow hb); have n3_ := Aside0.mk (hbox); have n4_ := Aside0.mk ((by rw [hg]; exact (below_size belNow) : w.heap.size ≤ gb165)); have n5_ := Aside0.mk ((by rw [hg]; exact (below_size belNow) : w.heap.size ≤ gb165)); clear HO_10; clear HO_25; clear HB; have HO_10 := n0_; have HO_25 := n1_; have HB := n2_; have BK165 := n3_; have GW165 := n4_; have GE165 := n5_; clear n0_ n1_ n2_ n3_ n4_ n5_; clear hb hbox hg; have hcz29_0 : w28.cell? ⟨gb165, 0, none⟩ = some (.int .i64 0) := (blk_cell BK165.out 0).trans rfl; have hcz29_1 : w28.cell? ⟨gb165, 1, none⟩ = some (.int .i64 0) := (blk_cell BK165.out 1).trans rfl; have hcz29_2 : w28.cell? ⟨gb165, 2, none⟩ = some (.int .i64 0) := (blk_cell BK165.out 2).trans rfl; have hcz29_3 : w28.cell? ⟨gb165, 3, none⟩ = some (.int .i64 0) := (blk_cell BK165.out 3).trans rfl; have hfz29_0 := blk_frozen BK165.out 0; have hfz29_1 := blk_frozen BK165.out 1; have hfz29_2 := blk_frozen BK165.out 2; have hfz29_3 := blk_frozen BK165.out 3; obtain ⟨i030, hi030, _, hsz30, _⟩ := info_parts info9; obtain ⟨A30, hcut30, hA30, hC30⟩ := print_mid_of (P := Tryd.prog) Value.string (⟨#[]⟩ : ByteArray) 38 9 .i64 .i64 Tryd.underlying38 hi030 hsz30 A1 c1 l1 ((rd_T43 t159 x27_1).f0) (wrap64 (((rd_T43 t159 x27_1).f0) + ((rd_T43 t159 x27_1).f1))) (ofDec) (by first | omega | exact ofDec) (ofDec) HC1.out; have HR166 := Aside0.mk (Kd.C_of_reads (h1 := fun _ => rfl) (hA30 _ (Kd.reads_of_C HR1.out))); have HC166 := Aside0.mk hC30; clear hA30 hC30 hi030 hsz30) | ((with_reducible refine gate_callee (f := 25) rfl ?_); refine goesL_ (some 40) rfl rfl Tryd.func25 (by kernel_rfl) rfl #[.slice A30 ((l1.take ((wrap64 (((rd_T43 t159 x27_1).f0) + ((rd_T43 t159 x27_1).f1))) : Int).toNat).drop (((rd_T43 t159 x27_1).f0) : Int).toNat).length (c1 - ((rd_T43 t159 x27_1).f0).toNat)] rfl (by (try simp only [List.map_toArray, List.map_cons, List.map_nil]); first | done | (rw [show ((l1.take ((wrap64 (((rd_T43 t159 x27_1).f0) + ((rd_T43 t159 x27_1).f1))) : Int).toNat).drop (((rd_T43 t159 x27_1).f0) : Int).toNat).length = ((wrap64 (((rd_T43 t159 x27_1).f0) + ((rd_T43 t159 x27_1).f1))).toNat - ((rd_T43 t159 x27_1).f0).toNat) from (by rw [List.length_drop, List.length_take]; have h_ : ((wrap64 (((rd_T43 t159 x27_1).f0) + ((rd_T43 t159 x27_1).f1))) : Int) ≤ (l1.length : Int) := ofDec; omega)] <;> rfl) | rfl | (simp only [List.length_drop, List.length_take]; rfl)) ?_; (with_reducible refine (slide_full.calls k1 _ _ ((l1.take ((wrap64 (((rd_T43 t159 x27_1).f0) + ((rd_T43 t159 x27_1).f1))) : Int).toNat).drop (((rd_T43 t159 x27_1).f0) : Int).toNat) false _ ?side1 ?side2 A13.out).mono ?_); (case side1 => exact Kd.C_below HR166.out (belPut)); (case side2 => exact HC166.out); rintro e w31 ⟨rfl, hb⟩; refine ⟨_, rfl, ?_⟩; have n0_ := Aside0.mk (Kd.R_below (by (with_reducible repeat (first | apply Kd.R_alloc | apply Kd.R_drewN | apply Kd.R_drew)); exact (Kd.R_mono (Kd.R_far (p := ⟨gb165, 3, none⟩) (Kd.R_far (p := ⟨gb165, 2, none⟩) (Kd.R_far (p := ⟨gb165, 1, none⟩) (Kd.R_far (p := ⟨gb165, 0, none⟩) (Kd.R_mono HO_10.out (fun k_ hk => (⟨hk, hk.2⟩ : _ ∧ k_ ≠ gb165))) (fun _ hk => hk.2) (.int .i64 ((rd_T43 t159 x27_1).f0))) (fun _ hk => hk.2) (.int .i64 ((rd_T43 t159 x27_1).f1))) (fun _ hk => hk.2) (.int .i64 ((rd_T43 t159 x27_1).f2))) (fun _ hk => hk.2) (.int .i64 ((rd_T43 t159 x27_1).f3))) (fun _ h_ => h_.1))) hb); have n1_ := Aside0.mk (Kd.R_below (by (with_reducible repeat (first | apply Kd.R_alloc | apply Kd.R_drewN | apply Kd.R_drew)); exact (Kd.R_mono (Kd.R_far (p := ⟨gb165, 3, none⟩) (Kd.R_far (p := ⟨gb165, 2, none⟩) (Kd.R_far (p := ⟨gb165, 1, none⟩) (Kd.R_far (p := ⟨gb165, 0, none⟩) (Kd.R_mono HO_25.out (fun k_ hk => (⟨hk, hk.2⟩ : _ ∧ k_ ≠ gb165))) (fun _ hk => hk.2) (.int .i64 ((rd_T43 t159 x27_1).f0))) (fun _ hk => hk.2) (.int .i64 ((rd_T43 t159 x27_1).f1))) (fun _ hk => hk.2) (.int .i64 ((rd_T43 t159 x27_1).f2))) (fun _ hk => hk.2) (.int .i64 ((rd_T43 t159 x27_1).f3))) (fun _ h_ => h_.1))) hb); have n2_ := Aside0.mk (blk_below (g := gb165) (o := .cells #[.int .i64 ((rd_T43 t159 x27_1).f0), .int .i64 ((rd_T43 t159 x27_1).f1), .int .i64 ((rd_T43 t159 x27_1).f2), .int .i64 ((rd_T43 t159 x27_1).f3)] 43 (0, 0)) (by (with_reducible repeat (first | refine blk_drewN ?_ _ | refine blk_drew ?_ | refine blk_alloc ?_ _)); refine blk_put (cs := #[.int .i64 ((rd_T43 t159 x27_1).f0), .int .i64 ((rd_T43 t159 x27_1).f1), .int .i64 ((rd_T43 t159 x27_1).f2), .int .i64 0]) ?_ 3 _ rfl; (with_reducible repeat (first | refine blk_drewN ?_ _ | refine blk_drew ?_ | refine blk_alloc ?_ _)); refine blk_put (cs := #[.int .i64 ((rd_T43 t159 x27_1).f0), .int .i64 ((rd_T43 t159 x27_1).f1), .int .i64 0, .int .i64 0]) ?_ 2 _ rfl; (with_reducible repeat (first | refine blk_drewN ?_ _ | refine blk_drew ?_ | refine blk_alloc ?_ _)); refine blk_put (cs := #[.int .i64 ((rd_T43 t159 x27_1).f0), .int .i64 0, .int .i64 0, .int .i64 0]) ?_ 1 _ rfl; (with_reducible repeat (first | refine blk_drewN ?_ _ | refine blk_drew ?_ | refine blk_alloc ?_ _)); refine blk_put (cs := #[.int .i64 0, .int .i64 0, .int .i64 0, .int .i64 0]) ?_ 0 _ rfl; (with_reducible repeat (first | refine blk_drewN ?_ _ | refine blk_drew ?_ | refine blk_alloc ?_ _)); exact BK165.out) hb); have n3_ := Aside0.mk (below_step (belPut) hb); clear HO_10; clear HO_25; clear BK165; clear HB; have HO_10 := n0_; have HO_25 := n1_; have BK165 := n2_; have HB := n3_; clear n0_ n1_ n2_ n3_; (try clear hb); (try clear hb2); (try clear hk); (try clear hi); have hcz32_0 : w31.cell? ⟨gb165, 0, none⟩ = some (.int .i64 ((rd_T43 t159 x27_1).f0)) := (blk_cell BK165.out 0).trans rfl; have hcz32_1 : w31.cell? ⟨gb165, 1, none⟩ = some (.int .i64 ((rd_T43 t159 x27_1).f1)) := (blk_cell BK165.out 1).trans rfl; have hcz32_2 : w31.cell? ⟨gb165, 2, none⟩ = some (.int .i64 ((rd_T43 t159 x27_1).f2)) := (blk_cell BK165.out 2).trans rfl; have hcz32_3 : w31.cell? ⟨gb165, 3, none⟩ = some (.int .i64 ((rd_T43 t159 x27_1).f3)) := (blk_cell BK165.out 3).trans rfl; have hfz32_0 := blk_frozen BK165.out 0; have hfz32_1 := blk_frozen BK165.out 1; have hfz32_2 := blk_frozen BK165.out 2; have hfz32_3 := blk_frozen BK165.out 3; obtain ⟨i033, hi033, _, hsz33, _⟩ := info_parts info9; obtain ⟨A33, hcut33, hA33, hC33⟩ := print_mid_of (P := Tryd.prog) Value.string (⟨#[]⟩ : ByteArray) 38 9 .i64 .i64 Tryd.underlying38 hi033 hsz33 A2 c2 l2 ((rd_T43 t159 x27_1).f2) (wrap64 (((rd_T43 t159 x27_1).f2) + ((rd_T43 t159 x27_1).f3))) (ofDec) (by first | omega | exact ofDec) (ofDec) HC2.out; have HR171 := Aside0.mk (Kd.C_of_reads (h1 := fun _ => rfl) (hA33 _ (Kd.reads_of_C HR2.out))); have HC171 := Aside0.mk hC33; clear hA33 hC33 hi033 hsz33) | (go_at_call 25; have hl_ : ((l2.take ((wrap64 (((rd_T43 t159 x27_1).f2) + ((rd_T43 t159 x27_1).f3))) : Int).toNat).drop (((rd_T43 t159 x27_1).f2) : Int).toNat).length = ((wrap64 (((rd_T43 t159 x27_1).f2) + ((rd_T43 t159 x27_1).f3))) : Int).toNat - (((rd_T43 t159 x27_1).f2) : Int).toNat := (by rw [List.length_drop, List.length_take, Nat.min_eq_left (by have h_ := of_decide_eq_true (by assumption : decide ((wrap64 (((rd_T43 t159 x27_1).f2) + ((rd_T43 t159 x27_1).f3))) ≤ (l2.length : Int)) = true); omega)]); rw [← hl_]; clear hl_; (with_reducible refine (slide_full.calls k1 _ _ ((l2.take ((wrap64 (((rd_T43 t159 x27_1).f2) + ((rd_T43 t159 x27_1).f3))) : Int).toNat).drop (((rd_T43 t159 x27_1).f2) : Int).toNat) true _ ?side1 ?side2 A25.out).mono ?_); (case side1 => repeat (first | exact (Kd.C_below HR171.out HB.out) | (with_reducible refine Kd.C_alloc ?_ _) | (with_reducible refine Kd.C_drewN ?_ _) | (with_reducible refine Kd.C_drew ?_))); (case side2 => exact HC171.out); rintro e w34 ⟨rfl, hb⟩; have n0_ := Aside0.mk (Kd.R_below (kdUp HO_10.out) hb); have n1_ := Aside0.mk (Kd.R_below (kdUp HO_25.out) hb); have n2_ := Aside0.mk (blk_below (g := gb165) (o := .cells #[.int .i64 ((rd_T43 t159 x27_1).f0), .int .i64 ((rd_T43 t159 x27_1).f1), .int .i64 ((rd_T43 t159 x27_1).f2), .int .i64 ((rd_T43 t159 x27_1).f3)] 43 (0, 0)) (bkUp BK165.out) hb); have n3_ := Aside0.mk (below_step (belPut) hb); clear HO_10; clear HO_25; clear BK165; clear HB; have HO_10 := n0_; have HO_25 := n1_; have BK165 := n2_; have HB := n3_; clear n0_ n1_ n2_ n3_; (try clear hb); (try clear hb2); (try clear hk); (try clear hi); have hcz35_0 : w34.cell? ⟨gb165, 0, none⟩ = some (.int .i64 ((rd_T43 t159 x27_1).f0)) := (blk_cell BK165.out 0).trans rfl; have hcz35_1 : w34.cell? ⟨gb165, 1, none⟩ = some (.int .i64 ((rd_T43 t159 x27_1).f1)) := (blk_cell BK165.out 1).trans rfl; have hcz35_2 : w34.cell? ⟨gb165, 2, none⟩ = some (.int .i64 ((rd_T43 t159 x27_1).f2)) := (blk_cell BK165.out 2).trans rfl; have hcz35_3 : w34.cell? ⟨gb165, 3, none⟩ = some (.int .i64 ((rd_T43 t159 x27_1).f3)) := (blk_cell BK165.out 3).trans rfl; have hfz35_0 := blk_frozen BK165.out 0; have hfz35_1 := blk_frozen BK165.out 1; have hfz35_2 := blk_frozen BK165.out 2; have hfz35_3 := blk_frozen BK165.out 3) | ((with_reducible refine gate_builtin (b := .append) (xs := #[.tmp 53, .tmp 55]) rfl ?_); at_builtin; refine Kd.R_append k43 (w0 := w) w.heap.size rfl (.tmp 53) (.tmp 55) 22 43 (.agg #[(.int .i64 0), (.int .i64 0), (.int .i64 0), (.int .i64 0)]) 32 rfl Tryd.underlying22 info43 rfl (by decide) (by omega) u10 x10_1 (⟨(rd_T43 t159 x27_1).f0, (rd_T43 t159 x27_1).f1, (rd_T43 t159 x27_1).f2, (rd_T43 t159 x27_1).f3⟩ : S43) [.int .i64 ((rd_T43 t159 x27_1).f0), .int .i64 ((rd_T43 t159 x27_1).f1), .int .i64 ((rd_T43 t159 x27_1).f2), .int .i64 ((rd_T43 t159 x27_1).f3)] (fun k_ => some k_ ≠ (.slice (some ad164) t159.length co6 : Value).ownBlock ∧ k_ ≠ gb165) (fun _ => False) rfl rfl ?aP (fun _ hk => hk.elim) ?aF ?aO ?aB ?aS ?aL ?_; (case aP => exact k43_mkM _ _ _ (⟨(rd_T43 t159 x27_1).f0, (rd_T43 t159 x27_1).f1, (rd_T43 t159 x27_1).f2, (rd_T43 t159 x27_1).f3⟩ : S43)); (case aB => exact (belPut)); (case aF => exact (fun k_ hk => ⟨Kd.fresh' (Kd.R_lt (kdUp HO_25.out)) k_ hk, Kd.freshB (g := gb165) (o := .cells #[.int .i64 ((rd_T43 t159 x27_1).f0), .int .i64 ((rd_T43 t159 x27_1).f1), .int .i64 ((rd_T43 t159 x27_1).f2), .int .i64 ((rd_T43 t159 x27_1).f3)] 43 (0, 0)) (bkUp BK165.out) k_ hk⟩)); (case aO => exact (kdUp HO_10.out)); (case aS => exact (below_size (belPut))); (case aL => have := LMc27.out; omega); intro v174 w36 ho hb hg hat; rw [← Ny173.out] at ho; have n0_ := Aside0.mk (Kd.R_after (ok := (fun k_ => k_ ≠ gb165)) (by (with_reducible repeat (first | apply Kd.R_alloc | apply Kd.R_drewN | apply Kd.R_drew)); exact Kd.R_mono HO_25.out (fun _ hk => ⟨hk.2, hk.1⟩)) hg hat); have n1_ := Aside0.mk (blk_grown (g := gb165) (o := .cells #[.int .i64 ((rd_T43 t159 x27_1).f0), .int .i64 ((rd_T43 t159 x27_1).f1), .int .i64 ((rd_T43 t159 x27_1).f2), .int .i64 ((rd_T43 t159 x27_1).f3)] 43 (0, 0)) (bkUp BK165.out) hg (Kd.R_away HO_10.out (fun _ hk => hk.2))); have n2_ := Aside0.mk (hb); have n3_ := Aside0.mk (ho); clear HO_25; clear BK165; clear HB; clear HO_10; have HO_25 := n0_; have BK165 := n1_; have HB := n2_; have HO175 := n3_; clear n0_ n1_ n2_ n3_; clear ho hb hg hat))
                go_roundg k1
                case measure => have := HK1.out; omega
                case rel => exact ⟨(y173), (wrap64 (x27_1 + 1)), eqNow, H', ⟨by have := HK1.out; omega⟩, ⟨by (with_reducible repeat (first | apply Kd.R_alloc | apply Kd.R_drewN | apply Kd.R_drew)); exact Kd.R_mono HO175.out (fun _ hk => hk.1)⟩, ⟨by (with_reducible repeat (first | apply Kd.R_alloc | apply Kd.R_drewN | apply Kd.R_drew)); exact Kd.R_mono HO_25.out (fun _ hk => hk.2)⟩, ⟨belPut⟩⟩
               ·rw [if_neg c27] at H
                exact absurd H (by simp)
              ·replace c26 := Bool.eq_false_iff.mpr c26
               subst c26
               have H1 : (slide_Blanks.l0 k1 l1 l2 x10_1 t159 (t159.length : Int) (wrap64 (x27_1 + 1))) = some (r1, r2) := by rw [if_neg (show ¬ (false = true) by decide)] at H; exact H
               clear H
               have H := H1
               clear H1
               have H' := Aside0.mk H
               clear H
               have p164 : 0 ≤ (x27_1 : Int) := ofDec
               have q164 : x27_1 < (t159.length : Int) := ofDec
               obtain ⟨ad164, e164, hx164_0, hx164_1, hx164_2, hx164_3⟩ := at_T43 (Kd.R_reads' HO_25.out).2.2 x27_1 p164 q164
               cases e164
               replace p164 := eq_true p164
               replace q164 := eq_true q164
               go_wp2_with (first | ((with_reducible refine gate_dst (N := 12) rfl ?_); refine box_event ?hg (N := 12) ?hd (cs := #[.int .i64 0, .int .i64 0, .int .i64 0, .int .i64 0]) (t := 43) ?hr ?_; (case hd => rfl); (case hg => rfl); (case hr => first | (go_simp; done) | (go_simp; rfl)); intro gb165 hg w37 hbox hb; have n0_ := Aside0.mk (Kd.R_below (Kd.R_elderB (kdUp HO_10.out) gb165 (Nat.le_of_eq hg.symm)) hb); have n1_ := Aside0.mk (Kd.R_below (Kd.R_elderB (kdUp HO_25.out) gb165 (Nat.le_of_eq hg.symm)) hb); have n2_ := Aside0.mk (below_step belNow hb); have n3_ := Aside0.mk (hbox); have n4_ := Aside0.mk ((by rw [hg]; exact (below_size belNow) : w.heap.size ≤ gb165)); have n5_ := Aside0.mk ((by rw [hg]; exact (below_size belNow) : w.heap.size ≤ gb165)); clear HO_10; clear HO_25; clear HB; have HO_10 := n0_; have HO_25 := n1_; have HB := n2_; have BK165 := n3_; have GW165 := n4_; have GE165 := n5_; clear n0_ n1_ n2_ n3_ n4_ n5_; clear hb hbox hg; have hcz38_0 : w37.cell? ⟨gb165, 0, none⟩ = some (.int .i64 0) := (blk_cell BK165.out 0).trans rfl; have hcz38_1 : w37.cell? ⟨gb165, 1, none⟩ = some (.int .i64 0) := (blk_cell BK165.out 1).trans rfl; have hcz38_2 : w37.cell? ⟨gb165, 2, none⟩ = some (.int .i64 0) := (blk_cell BK165.out 2).trans rfl; have hcz38_3 : w37.cell? ⟨gb165, 3, none⟩ = some (.int .i64 0) := (blk_cell BK165.out 3).trans rfl; have hfz38_0 := blk_frozen BK165.out 0; have hfz38_1 := blk_frozen BK165.out 1; have hfz38_2 := blk_frozen BK165.out 2; have hfz38_3 := blk_frozen BK165.out 3; obtain ⟨i039, hi039, _, hsz39, _⟩ := info_parts info9; obtain ⟨A39, hcut39, hA39, hC39⟩ := print_mid_of (P := Tryd.prog) Value.string (⟨#[]⟩ : ByteArray) 38 9 .i64 .i64 Tryd.underlying38 hi039 hsz39 A1 c1 l1 ((rd_T43 t159 x27_1).f0) (wrap64 (((rd_T43 t159 x27_1).f0) + ((rd_T43 t159 x27_1).f1))) (ofDec) (by first | omega | exact ofDec) (ofDec) HC1.out; have HR166 := Aside0.mk (Kd.C_of_reads (h1 := fun _ => rfl) (hA39 _ (Kd.reads_of_C HR1.out))); have HC166 := Aside0.mk hC39; clear hA39 hC39 hi039 hsz39) | ((with_reducible refine gate_callee (f := 25) rfl ?_); refine goesL_ (some 40) rfl rfl Tryd.func25 (by kernel_rfl) rfl #[.slice A39 ((l1.take ((wrap64 (((rd_T43 t159 x27_1).f0) + ((rd_T43 t159 x27_1).f1))) : Int).toNat).drop (((rd_T43 t159 x27_1).f0) : Int).toNat).length (c1 - ((rd_T43 t159 x27_1).f0).toNat)] rfl (by (try simp only [List.map_toArray, List.map_cons, List.map_nil]); first | done | (rw [show ((l1.take ((wrap64 (((rd_T43 t159 x27_1).f0) + ((rd_T43 t159 x27_1).f1))) : Int).toNat).drop (((rd_T43 t159 x27_1).f0) : Int).toNat).length = ((wrap64 (((rd_T43 t159 x27_1).f0) + ((rd_T43 t159 x27_1).f1))).toNat - ((rd_T43 t159 x27_1).f0).toNat) from (by rw [List.length_drop, List.length_take]; have h_ : ((wrap64 (((rd_T43 t159 x27_1).f0) + ((rd_T43 t159 x27_1).f1))) : Int) ≤ (l1.length : Int) := ofDec; omega)] <;> rfl) | rfl | (simp only [List.length_drop, List.length_take]; rfl)) ?_; (with_reducible refine (slide_full.calls k1 _ _ ((l1.take ((wrap64 (((rd_T43 t159 x27_1).f0) + ((rd_T43 t159 x27_1).f1))) : Int).toNat).drop (((rd_T43 t159 x27_1).f0) : Int).toNat) false _ ?side1 ?side2 A13.out).mono ?_); (case side1 => exact Kd.C_below HR166.out (belPut)); (case side2 => exact HC166.out); rintro e w40 ⟨rfl, hb⟩; refine ⟨_, rfl, ?_⟩; have n0_ := Aside0.mk (Kd.R_below (by (with_reducible repeat (first | apply Kd.R_alloc | apply Kd.R_drewN | apply Kd.R_drew)); exact (Kd.R_mono (Kd.R_far (p := ⟨gb165, 3, none⟩) (Kd.R_far (p := ⟨gb165, 2, none⟩) (Kd.R_far (p := ⟨gb165, 1, none⟩) (Kd.R_far (p := ⟨gb165, 0, none⟩) (Kd.R_mono HO_10.out (fun k_ hk => (⟨hk, hk.2⟩ : _ ∧ k_ ≠ gb165))) (fun _ hk => hk.2) (.int .i64 ((rd_T43 t159 x27_1).f0))) (fun _ hk => hk.2) (.int .i64 ((rd_T43 t159 x27_1).f1))) (fun _ hk => hk.2) (.int .i64 ((rd_T43 t159 x27_1).f2))) (fun _ hk => hk.2) (.int .i64 ((rd_T43 t159 x27_1).f3))) (fun _ h_ => h_.1))) hb); have n1_ := Aside0.mk (Kd.R_below (by (with_reducible repeat (first | apply Kd.R_alloc | apply Kd.R_drewN | apply Kd.R_drew)); exact (Kd.R_mono (Kd.R_far (p := ⟨gb165, 3, none⟩) (Kd.R_far (p := ⟨gb165, 2, none⟩) (Kd.R_far (p := ⟨gb165, 1, none⟩) (Kd.R_far (p := ⟨gb165, 0, none⟩) (Kd.R_mono HO_25.out (fun k_ hk => (⟨hk, hk.2⟩ : _ ∧ k_ ≠ gb165))) (fun _ hk => hk.2) (.int .i64 ((rd_T43 t159 x27_1).f0))) (fun _ hk => hk.2) (.int .i64 ((rd_T43 t159 x27_1).f1))) (fun _ hk => hk.2) (.int .i64 ((rd_T43 t159 x27_1).f2))) (fun _ hk => hk.2) (.int .i64 ((rd_T43 t159 x27_1).f3))) (fun _ h_ => h_.1))) hb); have n2_ := Aside0.mk (blk_below (g := gb165) (o := .cells #[.int .i64 ((rd_T43 t159 x27_1).f0), .int .i64 ((rd_T43 t159 x27_1).f1), .int .i64 ((rd_T43 t159 x27_1).f2), .int .i64 ((rd_T43 t159 x27_1).f3)] 43 (0, 0)) (by (with_reducible repeat (first | refine blk_drewN ?_ _ | refine blk_drew ?_ | refine blk_alloc ?_ _)); refine blk_put (cs := #[.int .i64 ((rd_T43 t159 x27_1).f0), .int .i64 ((rd_T43 t159 x27_1).f1), .int .i64 ((rd_T43 t159 x27_1).f2), .int .i64 0]) ?_ 3 _ rfl; (with_reducible repeat (first | refine blk_drewN ?_ _ | refine blk_drew ?_ | refine blk_alloc ?_ _)); refine blk_put (cs := #[.int .i64 ((rd_T43 t159 x27_1).f0), .int .i64 ((rd_T43 t159 x27_1).f1), .int .i64 0, .int .i64 0]) ?_ 2 _ rfl; (with_reducible repeat (first | refine blk_drewN ?_ _ | refine blk_drew ?_ | refine blk_alloc ?_ _)); refine blk_put (cs := #[.int .i64 ((rd_T43 t159 x27_1).f0), .int .i64 0, .int .i64 0, .int .i64 0]) ?_ 1 _ rfl; (with_reducible repeat (first | refine blk_drewN ?_ _ | refine blk_drew ?_ | refine blk_alloc ?_ _)); refine blk_put (cs := #[.int .i64 0, .int .i64 0, .int .i64 0, .int .i64 0]) ?_ 0 _ rfl; (with_reducible repeat (first | refine blk_drewN ?_ _ | refine blk_drew ?_ | refine blk_alloc ?_ _)); exact BK165.out) hb); have n3_ := Aside0.mk (below_step (belPut) hb); clear HO_10; clear HO_25; clear BK165; clear HB; have HO_10 := n0_; have HO_25 := n1_; have BK165 := n2_; have HB := n3_; clear n0_ n1_ n2_ n3_; (try clear hb); (try clear hb2); (try clear hk); (try clear hi); have hcz41_0 : w40.cell? ⟨gb165, 0, none⟩ = some (.int .i64 ((rd_T43 t159 x27_1).f0)) := (blk_cell BK165.out 0).trans rfl; have hcz41_1 : w40.cell? ⟨gb165, 1, none⟩ = some (.int .i64 ((rd_T43 t159 x27_1).f1)) := (blk_cell BK165.out 1).trans rfl; have hcz41_2 : w40.cell? ⟨gb165, 2, none⟩ = some (.int .i64 ((rd_T43 t159 x27_1).f2)) := (blk_cell BK165.out 2).trans rfl; have hcz41_3 : w40.cell? ⟨gb165, 3, none⟩ = some (.int .i64 ((rd_T43 t159 x27_1).f3)) := (blk_cell BK165.out 3).trans rfl; have hfz41_0 := blk_frozen BK165.out 0; have hfz41_1 := blk_frozen BK165.out 1; have hfz41_2 := blk_frozen BK165.out 2; have hfz41_3 := blk_frozen BK165.out 3; obtain ⟨i042, hi042, _, hsz42, _⟩ := info_parts info9; obtain ⟨A42, hcut42, hA42, hC42⟩ := print_mid_of (P := Tryd.prog) Value.string (⟨#[]⟩ : ByteArray) 38 9 .i64 .i64 Tryd.underlying38 hi042 hsz42 A2 c2 l2 ((rd_T43 t159 x27_1).f2) (wrap64 (((rd_T43 t159 x27_1).f2) + ((rd_T43 t159 x27_1).f3))) (ofDec) (by first | omega | exact ofDec) (ofDec) HC2.out; have HR171 := Aside0.mk (Kd.C_of_reads (h1 := fun _ => rfl) (hA42 _ (Kd.reads_of_C HR2.out))); have HC171 := Aside0.mk hC42; clear hA42 hC42 hi042 hsz42) | (go_at_call 25; have hl_ : ((l2.take ((wrap64 (((rd_T43 t159 x27_1).f2) + ((rd_T43 t159 x27_1).f3))) : Int).toNat).drop (((rd_T43 t159 x27_1).f2) : Int).toNat).length = ((wrap64 (((rd_T43 t159 x27_1).f2) + ((rd_T43 t159 x27_1).f3))) : Int).toNat - (((rd_T43 t159 x27_1).f2) : Int).toNat := (by rw [List.length_drop, List.length_take, Nat.min_eq_left (by have h_ := of_decide_eq_true (by assumption : decide ((wrap64 (((rd_T43 t159 x27_1).f2) + ((rd_T43 t159 x27_1).f3))) ≤ (l2.length : Int)) = true); omega)]); rw [← hl_]; clear hl_; (with_reducible refine (slide_full.calls k1 _ _ ((l2.take ((wrap64 (((rd_T43 t159 x27_1).f2) + ((rd_T43 t159 x27_1).f3))) : Int).toNat).drop (((rd_T43 t159 x27_1).f2) : Int).toNat) false _ ?side1 ?side2 A25.out).mono ?_); (case side1 => repeat (first | exact (Kd.C_below HR171.out HB.out) | (with_reducible refine Kd.C_alloc ?_ _) | (with_reducible refine Kd.C_drewN ?_ _) | (with_reducible refine Kd.C_drew ?_))); (case side2 => exact HC171.out); rintro e w43 ⟨rfl, hb⟩; have n0_ := Aside0.mk (Kd.R_below (kdUp HO_10.out) hb); have n1_ := Aside0.mk (Kd.R_below (kdUp HO_25.out) hb); have n2_ := Aside0.mk (blk_below (g := gb165) (o := .cells #[.int .i64 ((rd_T43 t159 x27_1).f0), .int .i64 ((rd_T43 t159 x27_1).f1), .int .i64 ((rd_T43 t159 x27_1).f2), .int .i64 ((rd_T43 t159 x27_1).f3)] 43 (0, 0)) (bkUp BK165.out) hb); have n3_ := Aside0.mk (below_step (belPut) hb); clear HO_10; clear HO_25; clear BK165; clear HB; have HO_10 := n0_; have HO_25 := n1_; have BK165 := n2_; have HB := n3_; clear n0_ n1_ n2_ n3_; (try clear hb); (try clear hb2); (try clear hk); (try clear hi)))
               go_roundg k1
               case measure => have := HK1.out; omega
               case rel => exact ⟨(x10_1), (wrap64 (x27_1 + 1)), eqNow, H', ⟨by have := HK1.out; omega⟩, ⟨by (with_reducible repeat (first | apply Kd.R_alloc | apply Kd.R_drewN | apply Kd.R_drew)); exact Kd.R_mono HO_10.out (fun _ hk => hk.1)⟩, ⟨by (with_reducible repeat (first | apply Kd.R_alloc | apply Kd.R_drewN | apply Kd.R_drew)); exact Kd.R_mono HO_25.out (fun _ hk => hk.1)⟩, ⟨belPut⟩⟩
             ·rw [if_neg c24] at H
              exact absurd H (by simp)
            ·rw [if_neg c23] at H
             exact absurd H (by simp)
           ·rw [if_neg c22] at H
            exact absurd H (by simp)
         ·rw [if_neg c12] at H
          exact absurd H (by simp)
        ·rw [if_neg c11] at H
         exact absurd H (by simp)
       ·rw [if_neg c10] at H
        exact absurd H (by simp)
      ·rw [if_neg c9] at H
       exact absurd H (by simp)
     ·rw [if_neg c8] at H
      exact absurd H (by simp)
    ·rw [if_neg c7] at H
     have c7b0 : decide (x27_1 < (t159.length : Int)) = false := decide_eq_false c7
     clear c7
     simp only [Option.some.injEq, Prod.mk.injEq] at H
     obtain ⟨rfl, rfl⟩ := H
     go_wp2
     go_ret2
     exact ⟨_, eqEnd, by (with_reducible repeat (first | apply Kd.R_alloc | apply Kd.R_drewN | apply Kd.R_drew)); exact Kd.R_mono HO_10.out (fun _ hk => trivial), belNow⟩
 ·have H1 : (some (([] : List (S43)), some q163)) = some (r1, r2) := by rw [if_neg (show ¬ (some q163).isNone = true by simp)] at H; exact H
  clear H
  have H := H1
  clear H1
  try simp only [errW_none, errW_some]
  simp only [Option.some.injEq, Prod.mk.injEq] at H
  obtain ⟨rfl, rfl⟩ := H
  go_enter Tryd.func15, Tryd.ntmps15
  go_wp2_with (first | ((with_reducible refine gate_callee (f := 18) rfl ?_); refine goesL_ (some 19) rfl rfl Tryd.func18 (by kernel_rfl) rfl #[.slice A0 l0.length c0, .int .i64 (l1.length : Int), .int .i64 (l2.length : Int)] rfl argsOk ?_; (with_reducible refine (edits_Normal.calls k _ _ l0 (l1.length : Int) (l2.length : Int) t159 (some q163) _ ?side1 ?side2 A4.out).mono ?_); (case side1 => repeat (first | exact HR0.out | (with_reducible refine Kd.C_alloc ?_ _) | (with_reducible refine Kd.C_drewN ?_ _) | (with_reducible refine Kd.C_drew ?_))); (case side2 => exact HC0.out); rintro e w44 ⟨v161, rfl, ho0, hb⟩; refine ⟨_, rfl, ?_⟩; have n0_ := Aside0.mk (Kd.R_lower ho0 (below_size belNow)); have n1_ := Aside0.mk (below_step belNow hb); clear HB; have HO162 := n0_; have HB := n1_; clear n0_ n1_; (try clear hb); (try clear hb2); (try clear hk); (try clear hi); (try clear ho0); (try simp only [errW_none, errW_some])))
  go_ret2
  exact ⟨_, eqEnd, by first | exact Kd.R_nil _ _ _ _ _ | exact Kd.N_nil _ _ _ _ _ | exact Kd.V_nil _ _ _ _ _ | exact Kd.Q_nil _ _ _ _ _ | exact Kd.S_nil _ _ _ _ _, belNow⟩
end Go.Proofs.YtmfanpibpmajnaaDoor.Pp
