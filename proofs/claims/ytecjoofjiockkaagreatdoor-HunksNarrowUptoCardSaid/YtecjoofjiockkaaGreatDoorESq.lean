/-
  Blocks that the printed texts hold again and again, as lemmas with an automatic argument (squeeze.py puts their names in the blocks' place).
-/
import Derived.Test.YtecjoofjiockkaaGreatDoorEBase
import Derived.Test.YtecjoofjiockkaaGreatDoorWWords
import Derived.WalkKit
namespace Go.Proofs.YtecjoofjiockkaaGreatDoor.Ext
open Go.RowKit Go.Proofs.YtecjoofjiockkaaGreatDoorW.PrintWords
theorem belNow {b : Nat} {w0 W : World} (h : Below b w0 W := by repeat (first | (with_reducible first | exact HB.out | apply below_alloc | apply pw_below_drewN | apply below_drew1) | exact HB.out)) : Below b w0 W := h
theorem belPut {b : Nat} {w0 W : World} (h : Below b w0 W := by repeat (first | (with_reducible first | exact HB.out | apply below_alloc | apply pw_below_drewN | apply below_drew1 | refine below_set ?_ (Aside0.out (by assumption))) | exact HB.out)) : Below b w0 W := h
theorem eqEnd {α : Sort _} {a b : α} (h : a = b := by first | rfl | (simp [errW_none, errW_some] <;> rfl) | (simp [*, errW_none, errW_some] <;> rfl) | (simp only [i64_w, i32_w, u8_w]; first | rfl | (simp [errW_none, errW_some] <;> rfl)) | (simp only [bne_nil, beq_nil]; first | rfl | (simp <;> rfl))) : a = b := h
theorem eqFin {α : Sort _} {a b : α} (h : a = b := by first | rfl | (simp; done) | (simp [*]; done) | (simp [*] <;> rfl) | (simp only [i64_w, i32_w, u8_w]; first | rfl | (simp [errW_none, errW_some] <;> rfl)) | (simp only [bne_nil, beq_nil]; first | rfl | (simp <;> rfl))) : a = b := h
theorem eqNow {α : Sort _} {a b : α} (h : a = b := by first | rfl | (simp; done) | (simp [*]; done) | (simp [*] <;> rfl)) : a = b := h
theorem argsOk {α : Sort _} {a b : α} (h : a = b := by (try simp only [List.map_toArray, List.map_cons, List.map_nil]); first | done | rfl | (simp only [List.length_drop, List.length_take]; rfl)) : a = b := h
theorem ofDec {p : Prop} [Decidable p] (h : decide p = true := by first | (with_reducible assumption) | assumption) : p := of_decide_eq_true h
theorem drawnNow {w W : World} (h : Drawn0 w W := by repeat (first | exact Drawn0.refl _ | apply Drawn0.step)) : Drawn0 w W := h
theorem kdUp {p q : Prop} (h : p) (hk : p → q := by intro h_; (with_reducible repeat (first | apply Kd.R_alloc | apply Kd.R_drewN | apply Kd.R_drew)); exact h_) : q := hk h
theorem bkUp {p q : Prop} (h : p) (hk : p → q := by intro h_; (with_reducible repeat (first | refine blk_drewN ?_ _ | refine blk_drew ?_ | refine blk_alloc ?_ _)); exact h_) : q := hk h
end Go.Proofs.YtecjoofjiockkaaGreatDoor.Ext
