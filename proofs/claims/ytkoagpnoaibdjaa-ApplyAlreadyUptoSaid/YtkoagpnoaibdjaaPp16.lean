import Derived.Test.YtkoagpnoaibdjaaESt
import Derived.Test.YtkoagpnoaibdjaaPp0
namespace Go.Proofs.Ytkoagpnoaibdjaa.Pp
open Go.RowKit Go.Proofs.Ytkoagpnoaibdjaa.Ext Go.Proofs.YtkoagpnoaibdjaaW.PrintWords Go.Proofs.YtkoagpnoaibdjaaW.PrintLast Go.Proofs.YtkoagpnoaibdjaaW.PrintMore
attribute [local go_sem] max2_int min2_int max_two min_two max_three min_three max_four min_four   -- for this text's walks alone
set_option linter.unusedVariables false
set_option linter.unusedSimpArgs false
def selvageref10_line.l0 : Nat → ByteArray → Int → Option (Bool)
 | 0, _, _ => none
 | k + 1, x0, x3 => if x3 < (wrap64 ((x0.size : Int) - 1)) then (if 0 ≤ x3 then (if x3 < (x0.size : Int) then (if (bt x0 x3) = 10 then (some false) else (selvageref10_line.l0 k x0 (wrap64 (x3 + 1)))) else (none)) else (none)) else (some (x0.toList != ([] : List UInt8)))
def selvageref10_line.f (k : Nat) (a0 : ByteArray) : Option (Bool) := selvageref10_line.l0 k a0 0
theorem selvageref10_line.mono_l : ∀ k, (∀ y0 y1, LeO (selvageref10_line.l0 k y0 y1) (selvageref10_line.l0 (k + 1) y0 y1))
 | 0 => fun _ _ r h => by simp [selvageref10_line.l0] at h
 | k + 1 => by
  have ih0 := selvageref10_line.mono_l k
  ·intro y0 y1
   unfold selvageref10_line.l0
   repeat' first
   | (with_reducible exact ih0 _ _)
   | (with_reducible exact LeO.refl _)
   | (with_reducible exact LeO.none _)
   | (with_reducible refine LeO.ite ?_ ?_)
   | (with_reducible refine LeO.bind ?_ (fun _ => ?_))
   | exact ih0 _ _
   | exact LeO.none _
   | refine LeO.ite ?_ ?_
   | refine LeO.bind ?_ (fun _ => ?_)
theorem selvageref10_line.mono : ∀ a0 k, LeO (selvageref10_line.f k a0) (selvageref10_line.f (k + 1) a0) := by
 intro a0 k
 have ih0 := selvageref10_line.mono_l k
 unfold selvageref10_line.f
 repeat' first
   | (with_reducible exact ih0 _ _)
   | (with_reducible exact LeO.refl _)
   | (with_reducible exact LeO.none _)
   | (with_reducible refine LeO.ite ?_ ?_)
   | (with_reducible refine LeO.bind ?_ (fun _ => ?_))
   | exact ih0 _ _
   | exact LeO.none _
   | refine LeO.ite ?_ ?_
   | refine LeO.bind ?_ (fun _ => ?_)
set_option maxHeartbeats 8000000 in
set_option maxRecDepth 100000 in
theorem selvageref10_line.calls (k : Nat) (a0 : ByteArray) (r : Bool) (w : World) (h : selvageref10_line.f k a0 = some r) :
  Calls Try.prog 78 #[.string a0] w fun e w' => e = .returned (.bool r) ∧ Drawn0 w w' := by
 have H := h
 clear h
 unfold selvageref10_line.f at H
 have H' := Aside0.mk H
 clear H
 go_enter Try.func78, Try.ntmps78
 go_wp2
 go_loopg [3] k (fun kq v3 w' => ∃ (x3_1 : Int), v3 = .int .i64 x3_1 ∧ Aside0 (selvageref10_line.l0 kq a0 x3_1 = some r) ∧ Aside0 (kq ≤ k) ∧ Drawn0 w w')
 case atStart => exact ⟨(0), eqNow, H', ⟨Nat.le_refl _⟩, drawnNow⟩
 case round =>
  clear H'
  obtain ⟨x3_1, rfl, HA, HK1, ⟨m1, rfl⟩⟩ := hrel
  cases gk with
  | zero => exact absurd HA.out (by simp [selvageref10_line.l0])
  | succ k1 =>
   have H := HA.out
   clear HA
   simp only [selvageref10_line.l0] at H
   replace H := itLn H
   rcases H with ⟨-, c2b0, H⟩ | ⟨-, c2b0, H⟩
   ·obtain rfl := Option.some.inj H
    go_wp2
    go_ret
    exact ⟨eqFin, drawnNow⟩
   replace H := itLn H
   rcases H with ⟨_, _, H⟩ | ⟨-, c3b0, H⟩
   ·cases H
   replace H := itLn H
   rcases H with ⟨_, _, H⟩ | ⟨-, c4b0, H⟩
   ·cases H
   replace H := itE H
   rcases H with ⟨-, c6b0, c6b1, H⟩ | ⟨c6, c6b0, c6b1, H⟩
   ·obtain rfl := Option.some.inj H
    have p5 : 0 ≤ (x3_1 : Int) := ofDec
    have q5 : x3_1 < (a0.size : Int) := ofDec
    have hx5 := bt_at a0 x3_1
    replace p5 := eq_true p5
    replace q5 := eq_true q5
    go_wp2
    go_ret
    exact ⟨eqFin, drawnNow⟩
   have H' := Aside0.mk H
   clear H
   have p5 : 0 ≤ (x3_1 : Int) := ofDec
   have q5 : x3_1 < (a0.size : Int) := ofDec
   have hx5 := bt_at a0 x3_1
   replace p5 := eq_true p5
   replace q5 := eq_true q5
   go_wp2
   go_roundg k1
   case measure => have := HK1.out; omega
   case rel => exact ⟨(wrap64 (x3_1 + 1)), eqNow, H', ⟨by have := HK1.out; omega⟩, drawnNow⟩
end Go.Proofs.Ytkoagpnoaibdjaa.Pp
