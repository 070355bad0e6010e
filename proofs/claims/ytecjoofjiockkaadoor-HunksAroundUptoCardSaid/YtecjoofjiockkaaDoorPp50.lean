-- Printed by this session's pp.py over the kit's printer, out of the translation. Lean checks it.
import Derived.Test.YtecjoofjiockkaaDoorESt
import Derived.Test.YtecjoofjiockkaaDoorPp0
import Derived.Test.YtecjoofjiockkaaDoorPp2
import Derived.Test.YtecjoofjiockkaaDoorPp3
import Derived.Test.YtecjoofjiockkaaDoorPp4
import Derived.Test.YtecjoofjiockkaaDoorPp6
import Derived.Test.YtecjoofjiockkaaDoorPp7
import Derived.Test.YtecjoofjiockkaaDoorPp8
import Derived.Test.YtecjoofjiockkaaDoorPp11
import Derived.Test.YtecjoofjiockkaaDoorPp12
import Derived.Test.YtecjoofjiockkaaDoorPp13
import Derived.Test.YtecjoofjiockkaaDoorPp14
import Derived.Test.YtecjoofjiockkaaDoorPp15
import Derived.Test.YtecjoofjiockkaaDoorPp16
import Derived.Test.YtecjoofjiockkaaDoorPp17
import Derived.Test.YtecjoofjiockkaaDoorPp18
import Derived.Test.YtecjoofjiockkaaDoorPp19
import Derived.Test.YtecjoofjiockkaaDoorPp26
import Derived.Test.YtecjoofjiockkaaDoorPp31
namespace Go.Proofs.YtecjoofjiockkaaDoor.Pp
open Go.RowKit Go.Proofs.YtecjoofjiockkaaDoor.Ext Go.Proofs.YtecjoofjiockkaaDoorW.PrintWords Go.Proofs.YtecjoofjiockkaaDoorW.PrintLast Go.Proofs.YtecjoofjiockkaaDoorW.PrintMore
attribute [local go_sem] max2_int min2_int max_two min_two max_three min_three max_four min_four   -- for this text's walks alone
set_option linter.unusedVariables false
set_option linter.unusedSimpArgs false
def selvagelaw10_at.f (k : Nat) (l0 : List ByteArray) (a1 : Int) (l2 : List ByteArray) : Option (Bool) := if a1 ≥ 0 then (if (wrap64 (a1 + (l0.length : Int))) ≤ (l2.length : Int) then (if 0 ≤ a1 then (if a1 ≤ (wrap64 (a1 + (l0.length : Int))) then ((selvagelaw10_sameTexts.f k l0 ((l2.take ((wrap64 (a1 + (l0.length : Int))) : Int).toNat).drop (a1 : Int).toNat)).bind fun t340 => (some t340)) else (none)) else (none)) else (some false)) else (some false)
set_option maxHeartbeats 8000000 in
set_option maxRecDepth 100000 in
theorem selvagelaw10_at.calls (k : Nat) (A0 : Option Addr) (c0 : Nat) (l0 : List ByteArray) (a1 : Int) (A2 : Option Addr) (c2 : Nat) (l2 : List ByteArray) (r : Bool) (w : World) (hr0 : Kd.C Kd.string w A0 l0.length l0) (hc0 : l0.length ≤ c0) (hr2 : Kd.C Kd.string w A2 l2.length l2) (hc2 : l2.length ≤ c2) (h : selvagelaw10_at.f k l0 a1 l2 = some r) :
    Calls Tryd.prog 19 #[.slice A0 l0.length c0, .int .i64 a1, .slice A2 l2.length c2] w fun e w' => e = .returned (.bool r) ∧ Drawn0 w w' := by
  have HR0 := Aside0.mk hr0
  have HC0 := Aside0.mk hc0
  clear hr0 hc0
  have HR2 := Aside0.mk hr2
  have HC2 := Aside0.mk hc2
  clear hr2 hc2
  have H : (if a1 ≥ 0 then (if (wrap64 (a1 + (l0.length : Int))) ≤ (l2.length : Int) then (if 0 ≤ a1 then (if a1 ≤ (wrap64 (a1 + (l0.length : Int))) then ((selvagelaw10_sameTexts.f k l0 ((l2.take ((wrap64 (a1 + (l0.length : Int))) : Int).toNat).drop (a1 : Int).toNat)).bind fun t340 => (some t340)) else (none)) else (none)) else (some false)) else (some false)) = some r := h
  clear h
  by_cases c4 : a1 ≥ 0
  · rw [if_pos c4] at H
    have c4b0 : decide (0 ≤ a1) = true := decide_eq_true c4
    clear c4
    by_cases c5 : (wrap64 (a1 + (l0.length : Int))) ≤ (l2.length : Int)
    · rw [if_pos c5] at H
      have c5b0 : decide ((wrap64 (a1 + (l0.length : Int))) ≤ (l2.length : Int)) = true := decide_eq_true c5
      clear c5
      by_cases c6 : 0 ≤ a1
      · rw [if_pos c6] at H
        have c6b0 := eq_true c6
        have c6b1 : decide (0 ≤ a1) = true := decide_eq_true c6
        clear c6
        by_cases c7 : a1 ≤ (wrap64 (a1 + (l0.length : Int)))
        · rw [if_pos c7] at H
          have c7b0 := eq_true c7
          have c7b1 : decide (a1 ≤ (wrap64 (a1 + (l0.length : Int)))) = true := decide_eq_true c7
          have c8b0 := eq_true (of_decide_eq_true (by first | (with_reducible assumption) | assumption) : (wrap64 (a1 + (l0.length : Int))) ≤ (l2.length : Int))
          replace H := Option.bind_eq_some_iff.mp H
          obtain ⟨t340, A90, H⟩ := H
          replace H : (some t340) = some r := H
          have A9 := Aside0.mk A90
          clear A90
          obtain rfl := Option.some.inj H
          obtain ⟨i010, hi010, _, hsz10, _⟩ := info_parts info9
          obtain ⟨A10, hcut10, hA10, hC10⟩ := print_mid_of (P := Tryd.prog) Value.string (⟨#[]⟩ : ByteArray) 23 9 .i64 .i64 Tryd.underlying23 hi010 hsz10 A2 c2 l2 a1 (wrap64 (a1 + (l0.length : Int))) (of_decide_eq_true (by first | (with_reducible assumption) | assumption)) (by first | omega | exact of_decide_eq_true (by first | (with_reducible assumption) | assumption)) (of_decide_eq_true (by first | (with_reducible assumption) | assumption)) HC2.out
          have HR339 := Aside0.mk (Kd.C_of_reads (h1 := fun _ => rfl) (hA10 _ (Kd.reads_of_C HR2.out)))
          have HC339 := Aside0.mk hC10
          clear hA10 hC10 hi010 hsz10
          go_enter Tryd.func19, Tryd.ntmps19
          go_wp2_with (first | (go_at_call 35; have hl_ : ((l2.take ((wrap64 (a1 + (l0.length : Int))) : Int).toNat).drop (a1 : Int).toNat).length = ((wrap64 (a1 + (l0.length : Int))) : Int).toNat - (a1 : Int).toNat := (by rw [List.length_drop, List.length_take, Nat.min_eq_left (by have h_ := of_decide_eq_true (by assumption : decide ((wrap64 (a1 + (l0.length : Int))) ≤ (l2.length : Int)) = true); omega)]); (try rw [← hl_]); clear hl_; (with_reducible refine (selvagelaw10_sameTexts.calls k _ _ l0 _ _ ((l2.take ((wrap64 (a1 + (l0.length : Int))) : Int).toNat).drop (a1 : Int).toNat) t340 _ ?side1 ?side2 ?side3 ?side4 A9.out).mono ?_); (case side1 => repeat (first | exact HR0.out | (with_reducible refine Kd.C_alloc ?_ _) | (with_reducible refine Kd.C_drewN ?_ _) | (with_reducible refine Kd.C_drew ?_))); (case side2 => exact HC0.out); (case side3 => repeat (first | exact HR339.out | (with_reducible refine Kd.C_alloc ?_ _) | (with_reducible refine Kd.C_drewN ?_ _) | (with_reducible refine Kd.C_drew ?_))); (case side4 => exact HC339.out); rintro e w' ⟨rfl, ⟨nd, rfl⟩⟩))
          go_ret
          exact ⟨by first | rfl | (simp; done) | (simp [*]; done) | (simp [*] <;> rfl) | (simp only [i64_w, i32_w, u8_w]; first | rfl | (simp [errW_none, errW_some] <;> rfl)) | (simp only [bne_nil, beq_nil]; first | rfl | (simp <;> rfl)), by repeat (first | exact Drawn0.refl _ | apply Drawn0.step)⟩
        · rw [if_neg c7] at H
          exact absurd H (by simp)
      · rw [if_neg c6] at H
        exact absurd H (by simp)
    · rw [if_neg c5] at H
      have c5b0 : decide ((wrap64 (a1 + (l0.length : Int))) ≤ (l2.length : Int)) = false := decide_eq_false c5
      clear c5
      obtain rfl := Option.some.inj H
      go_enter Tryd.func19, Tryd.ntmps19
      go_wp2
      go_ret
      exact ⟨by first | rfl | (simp; done) | (simp [*]; done) | (simp [*] <;> rfl) | (simp only [i64_w, i32_w, u8_w]; first | rfl | (simp [errW_none, errW_some] <;> rfl)) | (simp only [bne_nil, beq_nil]; first | rfl | (simp <;> rfl)), by repeat (first | exact Drawn0.refl _ | apply Drawn0.step)⟩
  · rw [if_neg c4] at H
    have c4b0 : decide (0 ≤ a1) = false := decide_eq_false c4
    clear c4
    obtain rfl := Option.some.inj H
    go_enter Tryd.func19, Tryd.ntmps19
    go_wp2
    go_ret
    exact ⟨by first | rfl | (simp; done) | (simp [*]; done) | (simp [*] <;> rfl) | (simp only [i64_w, i32_w, u8_w]; first | rfl | (simp [errW_none, errW_some] <;> rfl)) | (simp only [bne_nil, beq_nil]; first | rfl | (simp <;> rfl)), by repeat (first | exact Drawn0.refl _ | apply Drawn0.step)⟩
end Go.Proofs.YtecjoofjiockkaaDoor.Pp
