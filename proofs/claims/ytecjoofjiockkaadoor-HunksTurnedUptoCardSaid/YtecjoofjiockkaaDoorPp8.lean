import Derived.Test.YtecjoofjiockkaaDoorESt
import Derived.Test.YtecjoofjiockkaaDoorPp0
import Derived.Test.YtecjoofjiockkaaDoorPp4
import Derived.Test.YtecjoofjiockkaaDoorPp7
import Derived.Test.YtecjoofjiockkaaDoorESides
set_option linter.unusedVariables false
set_option linter.unusedSimpArgs false
namespace Go.Proofs.YtecjoofjiockkaaDoor.Pp
open Go.RowKit Go.Proofs.YtecjoofjiockkaaDoor.Ext Go.Proofs.YtecjoofjiockkaaDoorW.PrintWords Go.Proofs.YtecjoofjiockkaaDoorW.PrintLast Go.Proofs.YtecjoofjiockkaaDoorW.PrintMore
attribute [local go_sem] max2_int min2_int max_two min_two max_three min_three max_four min_four
mutual
def hunks_Order.l0 : Nat → List (S41) → List (S41) → Int → Int → Option (Option Int)
 | 0, _, _, _, _ => none
 | k + 1, x0, x17, x18, x19 => if x19 < x18 then (if 0 ≤ x19 then (if x19 < (x17.length : Int) then ((hunks_Valid.f ((rd_T41 x17 x19).f0) ((rd_T41 x17 x19).f1) ((rd_T41 x17 x19).f2) ((rd_T41 x17 x19).f3) ((rd_T41 x17 x19).f4) ((rd_T41 x17 x19).f5)).bind fun t169 => (if t169.isNone = true then (hunks_Order.l0 k x0 x17 x18 (wrap64 (x19 + 1))) else (some (some (t169.getD 0))))) else (none)) else (none)) else (hunks_Order.l1 k 0 0 false false x0 (x0.length : Int) 0)
def hunks_Order.l1 : Nat → Int → Int → Bool → Bool → List (S41) → Int → Int → Option (Option Int)
 | 0, _, _, _, _, _, _, _ => none
 | k + 1, x6, x7, x8, x9, x29, x30, x31 => if x31 < x30 then (if 0 ≤ x31 then (if x31 < (x29.length : Int) then ((hunks_ahead.f ((rd_T41 x29 x31).f0) ((rd_T41 x29 x31).f1)).bind fun t173 => ((hunks_ahead.f ((rd_T41 x29 x31).f2) ((rd_T41 x29 x31).f3)).bind fun t174 => (if t173 < x6 then (some (some 112)) else (if t174 < x7 then (some (some 112)) else (if (wrap64 (t173 - t174)) = (wrap64 (x6 - x7)) then (if x8 = true then (if ((rd_T41 x29 x31).f1) > 0 then (some (some 112)) else (if x9 = true then (if ((rd_T41 x29 x31).f3) > 0 then (some (some 112)) else ((hunks_sides.f ((rd_T41 x29 x31).f0) ((rd_T41 x29 x31).f1) ((rd_T41 x29 x31).f2) ((rd_T41 x29 x31).f3) ((rd_T41 x29 x31).f4) ((rd_T41 x29 x31).f5)).bind fun bt175 => (hunks_Order.l1 k (wrap64 (t173 + ((rd_T41 x29 x31).f1))) (wrap64 (t174 + ((rd_T41 x29 x31).f3))) true true x29 x30 (wrap64 (x31 + 1))))) else ((hunks_sides.f ((rd_T41 x29 x31).f0) ((rd_T41 x29 x31).f1) ((rd_T41 x29 x31).f2) ((rd_T41 x29 x31).f3) ((rd_T41 x29 x31).f4) ((rd_T41 x29 x31).f5)).bind fun bt182 => (hunks_Order.l1 k (wrap64 (t173 + ((rd_T41 x29 x31).f1))) (wrap64 (t174 + ((rd_T41 x29 x31).f3))) true bt182.2.2.2.1 x29 x30 (wrap64 (x31 + 1)))))) else (if x9 = true then (if ((rd_T41 x29 x31).f3) > 0 then (some (some 112)) else ((hunks_sides.f ((rd_T41 x29 x31).f0) ((rd_T41 x29 x31).f1) ((rd_T41 x29 x31).f2) ((rd_T41 x29 x31).f3) ((rd_T41 x29 x31).f4) ((rd_T41 x29 x31).f5)).bind fun bt189 => (hunks_Order.l1 k (wrap64 (t173 + ((rd_T41 x29 x31).f1))) (wrap64 (t174 + ((rd_T41 x29 x31).f3))) bt189.2.1 true x29 x30 (wrap64 (x31 + 1))))) else ((hunks_sides.f ((rd_T41 x29 x31).f0) ((rd_T41 x29 x31).f1) ((rd_T41 x29 x31).f2) ((rd_T41 x29 x31).f3) ((rd_T41 x29 x31).f4) ((rd_T41 x29 x31).f5)).bind fun bt196 => (hunks_Order.l1 k (wrap64 (t173 + ((rd_T41 x29 x31).f1))) (wrap64 (t174 + ((rd_T41 x29 x31).f3))) bt196.2.1 bt196.2.2.2.1 x29 x30 (wrap64 (x31 + 1)))))) else (some (some 112))))))) else (none)) else (none)) else (some none)
end
def hunks_Order.f (k : Nat) (l0 : List (S41)) : Option (Option Int) := hunks_Order.l0 k l0 l0 (l0.length : Int) 0
theorem hunks_Order.mono_l : ∀ k, (∀ y0 y1 y2 y3, LeO (hunks_Order.l0 k y0 y1 y2 y3) (hunks_Order.l0 (k + 1) y0 y1 y2 y3)) ∧ (∀ y0 y1 y2 y3 y4 y5 y6, LeO (hunks_Order.l1 k y0 y1 y2 y3 y4 y5 y6) (hunks_Order.l1 (k + 1) y0 y1 y2 y3 y4 y5 y6))
 | 0 => ⟨fun _ _ _ _ r h => by simp [hunks_Order.l0] at h, fun _ _ _ _ _ _ _ r h => by simp [hunks_Order.l1] at h⟩
 | k + 1 => by
  obtain ⟨ih0, ih1⟩ := hunks_Order.mono_l k
  refine ⟨?_, ?_⟩
  ·intro y0 y1 y2 y3
   unfold hunks_Order.l0
   repeat' first
   | (with_reducible exact ih0 _ _ _ _)
   | (with_reducible exact ih1 _ _ _ _ _ _ _)
   | (with_reducible exact LeO.refl _)
   | (with_reducible exact LeO.none _)
   | (with_reducible refine LeO.ite ?_ ?_)
   | (with_reducible refine LeO.bind ?_ (fun _ => ?_))
   | exact ih0 _ _ _ _
   | exact ih1 _ _ _ _ _ _ _
   | exact LeO.none _
   | refine LeO.ite ?_ ?_
   | refine LeO.bind ?_ (fun _ => ?_)
  ·intro y0 y1 y2 y3 y4 y5 y6
   unfold hunks_Order.l1
   repeat' first
   | (with_reducible exact ih0 _ _ _ _)
   | (with_reducible exact ih1 _ _ _ _ _ _ _)
   | (with_reducible exact LeO.refl _)
   | (with_reducible exact LeO.none _)
   | (with_reducible refine LeO.ite ?_ ?_)
   | (with_reducible refine LeO.bind ?_ (fun _ => ?_))
   | exact ih0 _ _ _ _
   | exact ih1 _ _ _ _ _ _ _
   | exact LeO.none _
   | refine LeO.ite ?_ ?_
   | refine LeO.bind ?_ (fun _ => ?_)
theorem hunks_Order.mono : ∀ a0 k, LeO (hunks_Order.f k a0) (hunks_Order.f (k + 1) a0) := by
 intro a0 k
 obtain ⟨ih0, ih1⟩ := hunks_Order.mono_l k
 unfold hunks_Order.f
 repeat' first
   | (with_reducible exact ih0 _ _ _ _)
   | (with_reducible exact ih1 _ _ _ _ _ _ _)
   | (with_reducible exact LeO.refl _)
   | (with_reducible exact LeO.none _)
   | (with_reducible refine LeO.ite ?_ ?_)
   | (with_reducible refine LeO.bind ?_ (fun _ => ?_))
   | exact ih0 _ _ _ _
   | exact ih1 _ _ _ _ _ _ _
   | exact LeO.none _
   | refine LeO.ite ?_ ?_
   | refine LeO.bind ?_ (fun _ => ?_)
set_option maxHeartbeats 80000000 in
set_option maxRecDepth 100000 in
theorem hunks_Order.calls (k : Nat) (A0 : Option Addr) (c0 : Nat) (l0 : List (S41)) (r : Option Int) (w : World) (hr0 : Kd.C k41 w A0 l0.length l0) (hc0 : l0.length ≤ c0) (h : hunks_Order.f k l0 = some r) :
  Calls Tryd.prog 18 #[.slice A0 l0.length c0] w fun e w' => e = .returned (errW r) ∧ Below w.heap.size w w' := by
 have hu29 := Tryd.underlying41
 have hu77 := Tryd.underlying74
 have hu25 := Tryd.underlying28
 have hu73 := Tryd.underlying57
 have HR0 := Aside0.mk hr0
 have HC0 := Aside0.mk hc0
 clear hr0 hc0
 have HB := Aside0.mk (Below.refl w.heap.size w)
 have H := h
 clear h
 unfold hunks_Order.f at H
 have H' := Aside0.mk H
 clear H
 go_enter Tryd.func18, Tryd.ntmps18
 try simp only [List.append_eq, List.cons_append, List.nil_append]
 go_wp2
 repeat (go_quiet (fail); try go_wp2)
 go_loopg [19] k (fun kq v19 w' => ∃ (x19_1 : Int), v19 = .int .i64 x19_1 ∧ Aside0 (hunks_Order.l0 kq l0 l0 (l0.length : Int) x19_1 = some r) ∧ Aside0 (kq ≤ k) ∧ Aside0 (Below w.heap.size w w'))
 case atStart => exact ⟨(0), eqNow, H', ⟨Nat.le_refl _⟩, ⟨belNow⟩⟩
 case round =>
  clear H'
  obtain ⟨x19_1, rfl, HA, HK1, HB⟩ := hrel
  cases gk with
  | zero => exact absurd HA.out (by simp [hunks_Order.l0])
  | succ k1 =>
   have H := HA.out
   clear HA
   simp only [hunks_Order.l0] at H
   replace H := itL H
   rcases H with ⟨-, c2b0, H⟩ | ⟨-, c2b0, H⟩
   ·replace H := itLn H
    rcases H with ⟨_, _, H⟩ | ⟨-, c3b0, H⟩
    ·cases H
    replace H := itLn H
    rcases H with ⟨_, _, H⟩ | ⟨-, c4b0, H⟩
    ·cases H
    replace H := bdS H
    obtain ⟨t169, A5, H⟩ := H
    rcases t169 with _ | q170
    ·have H1 : (hunks_Order.l0 k1 l0 l0 (l0.length : Int) (wrap64 (x19_1 + 1))) = some r := by rw [if_pos (show (none : Option Int).isNone = true by rfl)] at H; exact H
     clear H
     have H := H1
     clear H1
     try simp only [errW_none, errW_some]
     have H' := Aside0.mk H
     clear H
     obtain ⟨ad167, A167_5, c167_5, rfl, hx167_0, hx167_1, hx167_2, hx167_3, hx167_4, hx167_5, HC167_5, HR167_5, p167, q167⟩ := atU_T41 HR0 HB x19_1
     go_wp2_with (first | ((with_reducible refine gate_dst (N := 4) rfl ?_); refine boxEv (N := 4) #[.int .i64 0, .int .i64 0, .int .i64 0, .int .i64 0, .string (⟨#[]⟩ : ByteArray), .slice none 0 0] 41 ?_; intro gb168 hg w6 hbox hb; have BK168 := Aside0.mk hbox; have GW168 := gwN HB hg; have GE168 := GW168; replace HB := hbD HB hb; clear hb hbox hg; obtain ⟨hcz7_0, hcz7_1, hcz7_2, hcz7_3, hcz7_4, hcz7_5, hfz7_0, hfz7_1, hfz7_2, hfz7_3, hfz7_4, hfz7_5⟩ := bcf6 (W := w6) BK168) | (go_at_call 24; (with_reducible refine (hunks_Valid.calls ((rd_T41 l0 x19_1).f0) ((rd_T41 l0 x19_1).f1) ((rd_T41 l0 x19_1).f2) ((rd_T41 l0 x19_1).f3) ((rd_T41 l0 x19_1).f4) _ _ ((rd_T41 l0 x19_1).f5) none _ ?side1 ?side2 A5.out).mono ?_); (case side1 => exact Kd.C_below HR167_5.out (belPut)); (case side2 => exact HC167_5.out); rintro e w8 ⟨rfl, hb⟩; replace BK168 := bkD BK168 hb; replace HB := hbD HB hb; clear hb; (try simp only [errW_none, errW_some])))
     repeat (go_quiet (fail); try go_wp2_with (fail))
     go_roundg k1
     case measure => have := HK1.out; omega
     case rel => exact ⟨(wrap64 (x19_1 + 1)), eqNow, H', ⟨by have := HK1.out; omega⟩, ⟨belPut⟩⟩
    have H1 : (some (some q170)) = some r := by rw [if_neg (show ¬ (some q170).isNone = true by simp)] at H; exact H
    clear H
    have H := H1
    clear H1
    try simp only [errW_none, errW_some]
    obtain rfl := Option.some.inj H
    obtain ⟨ad167, A167_5, c167_5, rfl, hx167_0, hx167_1, hx167_2, hx167_3, hx167_4, hx167_5, HC167_5, HR167_5, p167, q167⟩ := atU_T41 HR0 HB x19_1
    go_wp2_with (first | ((with_reducible refine gate_dst (N := 4) rfl ?_); refine boxEv (N := 4) #[.int .i64 0, .int .i64 0, .int .i64 0, .int .i64 0, .string (⟨#[]⟩ : ByteArray), .slice none 0 0] 41 ?_; intro gb168 hg w9 hbox hb; have BK168 := Aside0.mk hbox; have GW168 := gwN HB hg; have GE168 := GW168; replace HB := hbD HB hb; clear hb hbox hg; obtain ⟨hcz10_0, hcz10_1, hcz10_2, hcz10_3, hcz10_4, hcz10_5, hfz10_0, hfz10_1, hfz10_2, hfz10_3, hfz10_4, hfz10_5⟩ := bcf6 (W := w9) BK168) | (go_at_call 24; (with_reducible refine (hunks_Valid.calls ((rd_T41 l0 x19_1).f0) ((rd_T41 l0 x19_1).f1) ((rd_T41 l0 x19_1).f2) ((rd_T41 l0 x19_1).f3) ((rd_T41 l0 x19_1).f4) _ _ ((rd_T41 l0 x19_1).f5) (some q170) _ ?side1 ?side2 A5.out).mono ?_); (case side1 => exact Kd.C_below HR167_5.out (belPut)); (case side2 => exact HC167_5.out); rintro e w11 ⟨rfl, hb⟩; replace BK168 := bkD BK168 hb; replace HB := hbD HB hb; clear hb; (try simp only [errW_none, errW_some])))
    repeat (go_quiet (fail); try go_wp2_with (fail))
    go_ret
    exact ⟨eqEnd, belPut⟩
   have H' := Aside0.mk H
   clear H
   go_wp2
   repeat (go_quiet (fail); try go_wp2)
   go_loopg [6, 7, 8, 9, 31] k1 (fun kq v6 v7 v8 v9 v31 w' => ∃ (x6_2 : Int) (x7_2 : Int) (x8_2 : Bool) (x9_2 : Bool) (x31_2 : Int), v6 = .int .i64 x6_2 ∧ v7 = .int .i64 x7_2 ∧ v8 = .bool x8_2 ∧ v9 = .bool x9_2 ∧ v31 = .int .i64 x31_2 ∧ Aside0 (hunks_Order.l1 kq x6_2 x7_2 x8_2 x9_2 l0 (l0.length : Int) x31_2 = some r) ∧ Aside0 (kq ≤ k1) ∧ Aside0 (Below w.heap.size w w'))
   case atStart => exact ⟨(0), (0), (false), (false), (0), eqNow, eqNow, eqNow, eqNow, eqNow, H', ⟨Nat.le_refl _⟩, ⟨belNow⟩⟩
   case round =>
    clear H'
    try clear c2b0
    obtain ⟨x6_2, x7_2, x8_2, x9_2, x31_2, rfl, rfl, rfl, rfl, rfl, HA, HK2, HB⟩ := hrel
    cases gk with
    | zero => exact absurd HA.out (by simp [hunks_Order.l1])
    | succ k2 =>
     have H := HA.out
     clear HA
     simp only [hunks_Order.l1] at H
     replace H := itLn H
     rcases H with ⟨-, c12b0, H⟩ | ⟨-, c12b0, H⟩
     ·obtain rfl := Option.some.inj H
      go_wp2
      repeat (go_quiet (fail); try go_wp2)
      go_ret
      exact ⟨eqEnd, belNow⟩
     replace H := itLn H
     rcases H with ⟨_, _, H⟩ | ⟨-, c13b0, H⟩
     ·cases H
     replace H := itLn H
     rcases H with ⟨_, _, H⟩ | ⟨-, c14b0, H⟩
     ·cases H
     replace H := bdS H
     obtain ⟨t173, A15, H⟩ := H
     replace H := bdS H
     obtain ⟨t174, A16, H⟩ := H
     replace H := itL H
     rcases H with ⟨-, c17b0, H⟩ | ⟨-, c17b0, H⟩
     ·obtain rfl := Option.some.inj H
      obtain ⟨ad171, A171_5, c171_5, rfl, hx171_0, hx171_1, hx171_2, hx171_3, hx171_4, hx171_5, HC171_5, HR171_5, p171, q171⟩ := atU_T41 HR0 HB x31_2
      go_wp2_with (((with_reducible refine gate_dst (N := 11) rfl ?_); refine boxEv (N := 11) #[.int .i64 0, .int .i64 0, .int .i64 0, .int .i64 0, .string (⟨#[]⟩ : ByteArray), .slice none 0 0] 41 ?_; intro gb172 hg w18 hbox hb; have BK172 := Aside0.mk hbox; have GW172 := gwN HB hg; have GE172 := GW172; replace HB := hbD HB hb; clear hb hbox hg; obtain ⟨hcz19_0, hcz19_1, hcz19_2, hcz19_3, hcz19_4, hcz19_5, hfz19_0, hfz19_1, hfz19_2, hfz19_3, hfz19_4, hfz19_5⟩ := bcf6 (W := w18) BK172))
      repeat (go_quiet (first | (go_at_call 30; (with_reducible refine (hunks_ahead.calls ((rd_T41 l0 x31_2).f0) ((rd_T41 l0 x31_2).f1) t173 _ A15.out).mono ?_); rintro e w' ⟨rfl, ⟨nd, rfl⟩⟩; (try exact drwOk)) | (go_at_call 30; (with_reducible refine (hunks_ahead.calls ((rd_T41 l0 x31_2).f2) ((rd_T41 l0 x31_2).f3) t174 _ A16.out).mono ?_); rintro e w' ⟨rfl, ⟨nd, rfl⟩⟩; (try exact drwOk))); try go_wp2_with (fail))
      go_ret
      exact ⟨eqEnd, belPut⟩
     replace H := itL H
     rcases H with ⟨-, c20b0, H⟩ | ⟨-, c20b0, H⟩
     ·obtain rfl := Option.some.inj H
      obtain ⟨ad171, A171_5, c171_5, rfl, hx171_0, hx171_1, hx171_2, hx171_3, hx171_4, hx171_5, HC171_5, HR171_5, p171, q171⟩ := atU_T41 HR0 HB x31_2
      go_wp2_with (((with_reducible refine gate_dst (N := 11) rfl ?_); refine boxEv (N := 11) #[.int .i64 0, .int .i64 0, .int .i64 0, .int .i64 0, .string (⟨#[]⟩ : ByteArray), .slice none 0 0] 41 ?_; intro gb172 hg w21 hbox hb; have BK172 := Aside0.mk hbox; have GW172 := gwN HB hg; have GE172 := GW172; replace HB := hbD HB hb; clear hb hbox hg; obtain ⟨hcz22_0, hcz22_1, hcz22_2, hcz22_3, hcz22_4, hcz22_5, hfz22_0, hfz22_1, hfz22_2, hfz22_3, hfz22_4, hfz22_5⟩ := bcf6 (W := w21) BK172))
      repeat (go_quiet (first | (go_at_call 30; (with_reducible refine (hunks_ahead.calls ((rd_T41 l0 x31_2).f0) ((rd_T41 l0 x31_2).f1) t173 _ A15.out).mono ?_); rintro e w' ⟨rfl, ⟨nd, rfl⟩⟩; (try exact drwOk)) | (go_at_call 30; (with_reducible refine (hunks_ahead.calls ((rd_T41 l0 x31_2).f2) ((rd_T41 l0 x31_2).f3) t174 _ A16.out).mono ?_); rintro e w' ⟨rfl, ⟨nd, rfl⟩⟩; (try exact drwOk))); try go_wp2_with (fail))
      go_ret
      exact ⟨eqEnd, belPut⟩
     replace H := itEn H
     rcases H with ⟨c23, c23b0, c23b1, H⟩ | ⟨-, c23b0, c23b1, H⟩
     ·obtain rfl := Option.some.inj H
      obtain ⟨ad171, A171_5, c171_5, rfl, hx171_0, hx171_1, hx171_2, hx171_3, hx171_4, hx171_5, HC171_5, HR171_5, p171, q171⟩ := atU_T41 HR0 HB x31_2
      go_wp2_with (((with_reducible refine gate_dst (N := 11) rfl ?_); refine boxEv (N := 11) #[.int .i64 0, .int .i64 0, .int .i64 0, .int .i64 0, .string (⟨#[]⟩ : ByteArray), .slice none 0 0] 41 ?_; intro gb172 hg w84 hbox hb; have BK172 := Aside0.mk hbox; have GW172 := gwN HB hg; have GE172 := GW172; replace HB := hbD HB hb; clear hb hbox hg; obtain ⟨hcz85_0, hcz85_1, hcz85_2, hcz85_3, hcz85_4, hcz85_5, hfz85_0, hfz85_1, hfz85_2, hfz85_3, hfz85_4, hfz85_5⟩ := bcf6 (W := w84) BK172))
      repeat (go_quiet (first | (go_at_call 30; (with_reducible refine (hunks_ahead.calls ((rd_T41 l0 x31_2).f0) ((rd_T41 l0 x31_2).f1) t173 _ A15.out).mono ?_); rintro e w' ⟨rfl, ⟨nd, rfl⟩⟩; (try exact drwOk)) | (go_at_call 30; (with_reducible refine (hunks_ahead.calls ((rd_T41 l0 x31_2).f2) ((rd_T41 l0 x31_2).f3) t174 _ A16.out).mono ?_); rintro e w' ⟨rfl, ⟨nd, rfl⟩⟩; (try exact drwOk))); try go_wp2_with (fail))
      go_ret
      exact ⟨eqEnd, belPut⟩
     replace H := itBn H
     rcases H with ⟨rfl, H⟩ | ⟨rfl, H⟩
     ·replace H := itBn H
      rcases H with ⟨rfl, H⟩ | ⟨rfl, H⟩
      ·replace H := bdS H
       obtain ⟨⟨t196, t197, t198, t199, t200⟩, A72, H⟩ := H
       replace H : (hunks_Order.l1 k2 (wrap64 (t173 + ((rd_T41 l0 x31_2).f1))) (wrap64 (t174 + ((rd_T41 l0 x31_2).f3))) t197 t199 l0 (l0.length : Int) (wrap64 (x31_2 + 1))) = some r := H
       have H' := Aside0.mk H
       clear H
       obtain ⟨ad171, A171_5, c171_5, rfl, hx171_0, hx171_1, hx171_2, hx171_3, hx171_4, hx171_5, HC171_5, HR171_5, p171, q171⟩ := atU_T41 HR0 HB x31_2
       go_wp2_with (((with_reducible refine gate_dst (N := 11) rfl ?_); refine boxEv (N := 11) #[.int .i64 0, .int .i64 0, .int .i64 0, .int .i64 0, .string (⟨#[]⟩ : ByteArray), .slice none 0 0] 41 ?_; intro gb172 hg w73 hbox hb; have BK172 := Aside0.mk hbox; have GW172 := gwN HB hg; have GE172 := GW172; replace HB := hbD HB hb; clear hb hbox hg; obtain ⟨hcz74_0, hcz74_1, hcz74_2, hcz74_3, hcz74_4, hcz74_5, hfz74_0, hfz74_1, hfz74_2, hfz74_3, hfz74_4, hfz74_5⟩ := bcf6 (W := w73) BK172))
       repeat (go_quiet (first | (go_at_call 30; (with_reducible refine (hunks_ahead.calls ((rd_T41 l0 x31_2).f0) ((rd_T41 l0 x31_2).f1) t173 _ A15.out).mono ?_); rintro e w' ⟨rfl, ⟨nd, rfl⟩⟩; (try exact drwOk)) | (go_at_call 30; (with_reducible refine (hunks_ahead.calls ((rd_T41 l0 x31_2).f2) ((rd_T41 l0 x31_2).f3) t174 _ A16.out).mono ?_); rintro e w' ⟨rfl, ⟨nd, rfl⟩⟩; (try exact drwOk))); try go_wp2_with (first | (go_at_call 34; (with_reducible refine (hunks_sides.calls ((rd_T41 l0 x31_2).f0) ((rd_T41 l0 x31_2).f1) ((rd_T41 l0 x31_2).f2) ((rd_T41 l0 x31_2).f3) ((rd_T41 l0 x31_2).f4) _ _ ((rd_T41 l0 x31_2).f5) t196 t197 t198 t199 t200 _ ?side1 ?side2 A72.out).mono ?_); (case side1 => exact Kd.C_below HR171_5.out (belPut)); (case side2 => exact HC171_5.out); rintro e w75 ⟨rfl, hb⟩; replace BK172 := bkD BK172 hb; replace HB := hbD HB hb; clear hb) | ((with_reducible refine gate_dst (N := 14) rfl ?_); refine boxEv (N := 14) #[.int .i64 0, .bool false] 74 ?_; intro gb201 hg w76 hbox hb; have BK201 := Aside0.mk hbox; have GW201 := gwN HB hg; have GE201 := GW201; replace HB := hbD HB hb; have NB172_201 := nbL BK172 hg; have NB201_172 := nbR BK172 hg; replace BK172 := bkD BK172 hb; clear hb hbox hg) | ((with_reducible refine gate_dst (N := 15) rfl ?_); refine boxEv (N := 15) #[.int .i64 0, .bool false] 74 ?_; intro gb202 hg w77 hbox hb; have BK202 := Aside0.mk hbox; have GW202 := gwN HB hg; have GE202 := GW202; replace HB := hbD HB hb; have NB172_202 := nbL BK172 hg; have NB202_172 := nbR BK172 hg; replace BK172 := bkD BK172 hb; have NB201_202 := nbL BK201 hg; have NB202_201 := nbR BK201 hg; replace BK201 := bkD BK201 hb; clear hb hbox hg; have hnb78 := NB201_172.out; have hnc78 := NB172_201.out; have hnb79 := NB201_202.out; have hnc79 := NB202_201.out; obtain ⟨hcz80_0, hcz80_1, hfz80_0, hfz80_1⟩ := bcf2 (W := w77) BK201; have hnb81 := NB202_172.out; have hnc81 := NB172_202.out; obtain ⟨hcz82_0, hcz82_1, hfz82_0, hfz82_1⟩ := bcf2 (W := w77) BK202; obtain ⟨hcz83_0, hcz83_1, hcz83_2, hcz83_3, hcz83_4, hcz83_5, hfz83_0, hfz83_1, hfz83_2, hfz83_3, hfz83_4, hfz83_5⟩ := bcf6 (W := w77) BK172)))
       go_roundg k2
       case measure => have := HK1.out; have := HK2.out; omega
       case rel => exact ⟨(wrap64 (t173 + ((rd_T41 l0 x31_2).f1))), (wrap64 (t174 + ((rd_T41 l0 x31_2).f3))), (t197), (t199), (wrap64 (x31_2 + 1)), eqNow, eqNow, eqNow, eqNow, eqNow, H', ⟨by have := HK1.out; have := HK2.out; omega⟩, ⟨belPut⟩⟩
      replace H := itG H
      rcases H with ⟨-, c57b0, H⟩ | ⟨-, c57b0, H⟩
      ·obtain rfl := Option.some.inj H
       obtain ⟨ad171, A171_5, c171_5, rfl, hx171_0, hx171_1, hx171_2, hx171_3, hx171_4, hx171_5, HC171_5, HR171_5, p171, q171⟩ := atU_T41 HR0 HB x31_2
       go_wp2_with (((with_reducible refine gate_dst (N := 11) rfl ?_); refine boxEv (N := 11) #[.int .i64 0, .int .i64 0, .int .i64 0, .int .i64 0, .string (⟨#[]⟩ : ByteArray), .slice none 0 0] 41 ?_; intro gb172 hg w58 hbox hb; have BK172 := Aside0.mk hbox; have GW172 := gwN HB hg; have GE172 := GW172; replace HB := hbD HB hb; clear hb hbox hg; obtain ⟨hcz59_0, hcz59_1, hcz59_2, hcz59_3, hcz59_4, hcz59_5, hfz59_0, hfz59_1, hfz59_2, hfz59_3, hfz59_4, hfz59_5⟩ := bcf6 (W := w58) BK172))
       repeat (go_quiet (first | (go_at_call 30; (with_reducible refine (hunks_ahead.calls ((rd_T41 l0 x31_2).f0) ((rd_T41 l0 x31_2).f1) t173 _ A15.out).mono ?_); rintro e w' ⟨rfl, ⟨nd, rfl⟩⟩; (try exact drwOk)) | (go_at_call 30; (with_reducible refine (hunks_ahead.calls ((rd_T41 l0 x31_2).f2) ((rd_T41 l0 x31_2).f3) t174 _ A16.out).mono ?_); rintro e w' ⟨rfl, ⟨nd, rfl⟩⟩; (try exact drwOk))); try go_wp2_with (fail))
       go_ret
       exact ⟨eqEnd, belPut⟩
      replace H := bdS H
      obtain ⟨⟨t189, t190, t191, t192, t193⟩, A60, H⟩ := H
      replace H : (hunks_Order.l1 k2 (wrap64 (t173 + ((rd_T41 l0 x31_2).f1))) (wrap64 (t174 + ((rd_T41 l0 x31_2).f3))) t190 true l0 (l0.length : Int) (wrap64 (x31_2 + 1))) = some r := H
      have H' := Aside0.mk H
      clear H
      obtain ⟨ad171, A171_5, c171_5, rfl, hx171_0, hx171_1, hx171_2, hx171_3, hx171_4, hx171_5, HC171_5, HR171_5, p171, q171⟩ := atU_T41 HR0 HB x31_2
      go_wp2_with (((with_reducible refine gate_dst (N := 11) rfl ?_); refine boxEv (N := 11) #[.int .i64 0, .int .i64 0, .int .i64 0, .int .i64 0, .string (⟨#[]⟩ : ByteArray), .slice none 0 0] 41 ?_; intro gb172 hg w61 hbox hb; have BK172 := Aside0.mk hbox; have GW172 := gwN HB hg; have GE172 := GW172; replace HB := hbD HB hb; clear hb hbox hg; obtain ⟨hcz62_0, hcz62_1, hcz62_2, hcz62_3, hcz62_4, hcz62_5, hfz62_0, hfz62_1, hfz62_2, hfz62_3, hfz62_4, hfz62_5⟩ := bcf6 (W := w61) BK172))
      repeat (go_quiet (first | (go_at_call 30; (with_reducible refine (hunks_ahead.calls ((rd_T41 l0 x31_2).f0) ((rd_T41 l0 x31_2).f1) t173 _ A15.out).mono ?_); rintro e w' ⟨rfl, ⟨nd, rfl⟩⟩; (try exact drwOk)) | (go_at_call 30; (with_reducible refine (hunks_ahead.calls ((rd_T41 l0 x31_2).f2) ((rd_T41 l0 x31_2).f3) t174 _ A16.out).mono ?_); rintro e w' ⟨rfl, ⟨nd, rfl⟩⟩; (try exact drwOk))); try go_wp2_with (first | (go_at_call 34; (with_reducible refine (hunks_sides.calls ((rd_T41 l0 x31_2).f0) ((rd_T41 l0 x31_2).f1) ((rd_T41 l0 x31_2).f2) ((rd_T41 l0 x31_2).f3) ((rd_T41 l0 x31_2).f4) _ _ ((rd_T41 l0 x31_2).f5) t189 t190 t191 t192 t193 _ ?side1 ?side2 A60.out).mono ?_); (case side1 => exact Kd.C_below HR171_5.out (belPut)); (case side2 => exact HC171_5.out); rintro e w63 ⟨rfl, hb⟩; replace BK172 := bkD BK172 hb; replace HB := hbD HB hb; clear hb) | ((with_reducible refine gate_dst (N := 14) rfl ?_); refine boxEv (N := 14) #[.int .i64 0, .bool false] 74 ?_; intro gb194 hg w64 hbox hb; have BK194 := Aside0.mk hbox; have GW194 := gwN HB hg; have GE194 := GW194; replace HB := hbD HB hb; have NB172_194 := nbL BK172 hg; have NB194_172 := nbR BK172 hg; replace BK172 := bkD BK172 hb; clear hb hbox hg) | ((with_reducible refine gate_dst (N := 15) rfl ?_); refine boxEv (N := 15) #[.int .i64 0, .bool false] 74 ?_; intro gb195 hg w65 hbox hb; have BK195 := Aside0.mk hbox; have GW195 := gwN HB hg; have GE195 := GW195; replace HB := hbD HB hb; have NB172_195 := nbL BK172 hg; have NB195_172 := nbR BK172 hg; replace BK172 := bkD BK172 hb; have NB194_195 := nbL BK194 hg; have NB195_194 := nbR BK194 hg; replace BK194 := bkD BK194 hb; clear hb hbox hg; have hnb66 := NB194_172.out; have hnc66 := NB172_194.out; have hnb67 := NB194_195.out; have hnc67 := NB195_194.out; obtain ⟨hcz68_0, hcz68_1, hfz68_0, hfz68_1⟩ := bcf2 (W := w65) BK194; have hnb69 := NB195_172.out; have hnc69 := NB172_195.out; obtain ⟨hcz70_0, hcz70_1, hfz70_0, hfz70_1⟩ := bcf2 (W := w65) BK195; obtain ⟨hcz71_0, hcz71_1, hcz71_2, hcz71_3, hcz71_4, hcz71_5, hfz71_0, hfz71_1, hfz71_2, hfz71_3, hfz71_4, hfz71_5⟩ := bcf6 (W := w65) BK172)))
      go_roundg k2
      case measure => have := HK1.out; have := HK2.out; omega
      case rel => exact ⟨(wrap64 (t173 + ((rd_T41 l0 x31_2).f1))), (wrap64 (t174 + ((rd_T41 l0 x31_2).f3))), (t190), (true), (wrap64 (x31_2 + 1)), eqNow, eqNow, eqNow, eqNow, eqNow, H', ⟨by have := HK1.out; have := HK2.out; omega⟩, ⟨belPut⟩⟩
     replace H := itG H
     rcases H with ⟨-, c25b0, H⟩ | ⟨-, c25b0, H⟩
     ·obtain rfl := Option.some.inj H
      obtain ⟨ad171, A171_5, c171_5, rfl, hx171_0, hx171_1, hx171_2, hx171_3, hx171_4, hx171_5, HC171_5, HR171_5, p171, q171⟩ := atU_T41 HR0 HB x31_2
      go_wp2_with (((with_reducible refine gate_dst (N := 11) rfl ?_); refine boxEv (N := 11) #[.int .i64 0, .int .i64 0, .int .i64 0, .int .i64 0, .string (⟨#[]⟩ : ByteArray), .slice none 0 0] 41 ?_; intro gb172 hg w26 hbox hb; have BK172 := Aside0.mk hbox; have GW172 := gwN HB hg; have GE172 := GW172; replace HB := hbD HB hb; clear hb hbox hg; obtain ⟨hcz27_0, hcz27_1, hcz27_2, hcz27_3, hcz27_4, hcz27_5, hfz27_0, hfz27_1, hfz27_2, hfz27_3, hfz27_4, hfz27_5⟩ := bcf6 (W := w26) BK172))
      repeat (go_quiet (first | (go_at_call 30; (with_reducible refine (hunks_ahead.calls ((rd_T41 l0 x31_2).f0) ((rd_T41 l0 x31_2).f1) t173 _ A15.out).mono ?_); rintro e w' ⟨rfl, ⟨nd, rfl⟩⟩; (try exact drwOk)) | (go_at_call 30; (with_reducible refine (hunks_ahead.calls ((rd_T41 l0 x31_2).f2) ((rd_T41 l0 x31_2).f3) t174 _ A16.out).mono ?_); rintro e w' ⟨rfl, ⟨nd, rfl⟩⟩; (try exact drwOk))); try go_wp2_with (fail))
      go_ret
      exact ⟨eqEnd, belPut⟩
     replace H := itBn H
     rcases H with ⟨rfl, H⟩ | ⟨rfl, H⟩
     ·replace H := bdS H
      obtain ⟨⟨t182, t183, t184, t185, t186⟩, A44, H⟩ := H
      replace H : (hunks_Order.l1 k2 (wrap64 (t173 + ((rd_T41 l0 x31_2).f1))) (wrap64 (t174 + ((rd_T41 l0 x31_2).f3))) true t185 l0 (l0.length : Int) (wrap64 (x31_2 + 1))) = some r := H
      have H' := Aside0.mk H
      clear H
      obtain ⟨ad171, A171_5, c171_5, rfl, hx171_0, hx171_1, hx171_2, hx171_3, hx171_4, hx171_5, HC171_5, HR171_5, p171, q171⟩ := atU_T41 HR0 HB x31_2
      go_wp2_with (((with_reducible refine gate_dst (N := 11) rfl ?_); refine boxEv (N := 11) #[.int .i64 0, .int .i64 0, .int .i64 0, .int .i64 0, .string (⟨#[]⟩ : ByteArray), .slice none 0 0] 41 ?_; intro gb172 hg w45 hbox hb; have BK172 := Aside0.mk hbox; have GW172 := gwN HB hg; have GE172 := GW172; replace HB := hbD HB hb; clear hb hbox hg; obtain ⟨hcz46_0, hcz46_1, hcz46_2, hcz46_3, hcz46_4, hcz46_5, hfz46_0, hfz46_1, hfz46_2, hfz46_3, hfz46_4, hfz46_5⟩ := bcf6 (W := w45) BK172))
      repeat (go_quiet (first | (go_at_call 30; (with_reducible refine (hunks_ahead.calls ((rd_T41 l0 x31_2).f0) ((rd_T41 l0 x31_2).f1) t173 _ A15.out).mono ?_); rintro e w' ⟨rfl, ⟨nd, rfl⟩⟩; (try exact drwOk)) | (go_at_call 30; (with_reducible refine (hunks_ahead.calls ((rd_T41 l0 x31_2).f2) ((rd_T41 l0 x31_2).f3) t174 _ A16.out).mono ?_); rintro e w' ⟨rfl, ⟨nd, rfl⟩⟩; (try exact drwOk))); try go_wp2_with (first | (go_at_call 34; (with_reducible refine (hunks_sides.calls ((rd_T41 l0 x31_2).f0) ((rd_T41 l0 x31_2).f1) ((rd_T41 l0 x31_2).f2) ((rd_T41 l0 x31_2).f3) ((rd_T41 l0 x31_2).f4) _ _ ((rd_T41 l0 x31_2).f5) t182 t183 t184 t185 t186 _ ?side1 ?side2 A44.out).mono ?_); (case side1 => exact Kd.C_below HR171_5.out (belPut)); (case side2 => exact HC171_5.out); rintro e w47 ⟨rfl, hb⟩; replace BK172 := bkD BK172 hb; replace HB := hbD HB hb; clear hb) | ((with_reducible refine gate_dst (N := 14) rfl ?_); refine boxEv (N := 14) #[.int .i64 0, .bool false] 74 ?_; intro gb187 hg w48 hbox hb; have BK187 := Aside0.mk hbox; have GW187 := gwN HB hg; have GE187 := GW187; replace HB := hbD HB hb; have NB172_187 := nbL BK172 hg; have NB187_172 := nbR BK172 hg; replace BK172 := bkD BK172 hb; clear hb hbox hg) | ((with_reducible refine gate_dst (N := 15) rfl ?_); refine boxEv (N := 15) #[.int .i64 0, .bool false] 74 ?_; intro gb188 hg w49 hbox hb; have BK188 := Aside0.mk hbox; have GW188 := gwN HB hg; have GE188 := GW188; replace HB := hbD HB hb; have NB172_188 := nbL BK172 hg; have NB188_172 := nbR BK172 hg; replace BK172 := bkD BK172 hb; have NB187_188 := nbL BK187 hg; have NB188_187 := nbR BK187 hg; replace BK187 := bkD BK187 hb; clear hb hbox hg; have hnb50 := NB187_172.out; have hnc50 := NB172_187.out; have hnb51 := NB187_188.out; have hnc51 := NB188_187.out; obtain ⟨hcz52_0, hcz52_1, hfz52_0, hfz52_1⟩ := bcf2 (W := w49) BK187; have hnb53 := NB188_172.out; have hnc53 := NB172_188.out; obtain ⟨hcz54_0, hcz54_1, hfz54_0, hfz54_1⟩ := bcf2 (W := w49) BK188; obtain ⟨hcz55_0, hcz55_1, hcz55_2, hcz55_3, hcz55_4, hcz55_5, hfz55_0, hfz55_1, hfz55_2, hfz55_3, hfz55_4, hfz55_5⟩ := bcf6 (W := w49) BK172)))
      go_roundg k2
      case measure => have := HK1.out; have := HK2.out; omega
      case rel => exact ⟨(wrap64 (t173 + ((rd_T41 l0 x31_2).f1))), (wrap64 (t174 + ((rd_T41 l0 x31_2).f3))), (true), (t185), (wrap64 (x31_2 + 1)), eqNow, eqNow, eqNow, eqNow, eqNow, H', ⟨by have := HK1.out; have := HK2.out; omega⟩, ⟨belPut⟩⟩
     replace H := itG H
     rcases H with ⟨-, c29b0, H⟩ | ⟨-, c29b0, H⟩
     ·obtain rfl := Option.some.inj H
      obtain ⟨ad171, A171_5, c171_5, rfl, hx171_0, hx171_1, hx171_2, hx171_3, hx171_4, hx171_5, HC171_5, HR171_5, p171, q171⟩ := atU_T41 HR0 HB x31_2
      go_wp2_with (((with_reducible refine gate_dst (N := 11) rfl ?_); refine boxEv (N := 11) #[.int .i64 0, .int .i64 0, .int .i64 0, .int .i64 0, .string (⟨#[]⟩ : ByteArray), .slice none 0 0] 41 ?_; intro gb172 hg w30 hbox hb; have BK172 := Aside0.mk hbox; have GW172 := gwN HB hg; have GE172 := GW172; replace HB := hbD HB hb; clear hb hbox hg; obtain ⟨hcz31_0, hcz31_1, hcz31_2, hcz31_3, hcz31_4, hcz31_5, hfz31_0, hfz31_1, hfz31_2, hfz31_3, hfz31_4, hfz31_5⟩ := bcf6 (W := w30) BK172))
      repeat (go_quiet (first | (go_at_call 30; (with_reducible refine (hunks_ahead.calls ((rd_T41 l0 x31_2).f0) ((rd_T41 l0 x31_2).f1) t173 _ A15.out).mono ?_); rintro e w' ⟨rfl, ⟨nd, rfl⟩⟩; (try exact drwOk)) | (go_at_call 30; (with_reducible refine (hunks_ahead.calls ((rd_T41 l0 x31_2).f2) ((rd_T41 l0 x31_2).f3) t174 _ A16.out).mono ?_); rintro e w' ⟨rfl, ⟨nd, rfl⟩⟩; (try exact drwOk))); try go_wp2_with (fail))
      go_ret
      exact ⟨eqEnd, belPut⟩
     replace H := bdS H
     obtain ⟨⟨t175, t176, t177, t178, t179⟩, A32, H⟩ := H
     replace H : (hunks_Order.l1 k2 (wrap64 (t173 + ((rd_T41 l0 x31_2).f1))) (wrap64 (t174 + ((rd_T41 l0 x31_2).f3))) true true l0 (l0.length : Int) (wrap64 (x31_2 + 1))) = some r := H
     have H' := Aside0.mk H
     clear H
     obtain ⟨ad171, A171_5, c171_5, rfl, hx171_0, hx171_1, hx171_2, hx171_3, hx171_4, hx171_5, HC171_5, HR171_5, p171, q171⟩ := atU_T41 HR0 HB x31_2
     go_wp2_with (((with_reducible refine gate_dst (N := 11) rfl ?_); refine boxEv (N := 11) #[.int .i64 0, .int .i64 0, .int .i64 0, .int .i64 0, .string (⟨#[]⟩ : ByteArray), .slice none 0 0] 41 ?_; intro gb172 hg w33 hbox hb; have BK172 := Aside0.mk hbox; have GW172 := gwN HB hg; have GE172 := GW172; replace HB := hbD HB hb; clear hb hbox hg; obtain ⟨hcz34_0, hcz34_1, hcz34_2, hcz34_3, hcz34_4, hcz34_5, hfz34_0, hfz34_1, hfz34_2, hfz34_3, hfz34_4, hfz34_5⟩ := bcf6 (W := w33) BK172))
     repeat (go_quiet (first | (go_at_call 30; (with_reducible refine (hunks_ahead.calls ((rd_T41 l0 x31_2).f0) ((rd_T41 l0 x31_2).f1) t173 _ A15.out).mono ?_); rintro e w' ⟨rfl, ⟨nd, rfl⟩⟩; (try exact drwOk)) | (go_at_call 30; (with_reducible refine (hunks_ahead.calls ((rd_T41 l0 x31_2).f2) ((rd_T41 l0 x31_2).f3) t174 _ A16.out).mono ?_); rintro e w' ⟨rfl, ⟨nd, rfl⟩⟩; (try exact drwOk))); try go_wp2_with (first | (go_at_call 34; (with_reducible refine (hunks_sides.calls ((rd_T41 l0 x31_2).f0) ((rd_T41 l0 x31_2).f1) ((rd_T41 l0 x31_2).f2) ((rd_T41 l0 x31_2).f3) ((rd_T41 l0 x31_2).f4) _ _ ((rd_T41 l0 x31_2).f5) t175 t176 t177 t178 t179 _ ?side1 ?side2 A32.out).mono ?_); (case side1 => exact Kd.C_below HR171_5.out (belPut)); (case side2 => exact HC171_5.out); rintro e w35 ⟨rfl, hb⟩; replace BK172 := bkD BK172 hb; replace HB := hbD HB hb; clear hb) | ((with_reducible refine gate_dst (N := 14) rfl ?_); refine boxEv (N := 14) #[.int .i64 0, .bool false] 74 ?_; intro gb180 hg w36 hbox hb; have BK180 := Aside0.mk hbox; have GW180 := gwN HB hg; have GE180 := GW180; replace HB := hbD HB hb; have NB172_180 := nbL BK172 hg; have NB180_172 := nbR BK172 hg; replace BK172 := bkD BK172 hb; clear hb hbox hg) | ((with_reducible refine gate_dst (N := 15) rfl ?_); refine boxEv (N := 15) #[.int .i64 0, .bool false] 74 ?_; intro gb181 hg w37 hbox hb; have BK181 := Aside0.mk hbox; have GW181 := gwN HB hg; have GE181 := GW181; replace HB := hbD HB hb; have NB172_181 := nbL BK172 hg; have NB181_172 := nbR BK172 hg; replace BK172 := bkD BK172 hb; have NB180_181 := nbL BK180 hg; have NB181_180 := nbR BK180 hg; replace BK180 := bkD BK180 hb; clear hb hbox hg; have hnb38 := NB180_172.out; have hnc38 := NB172_180.out; have hnb39 := NB180_181.out; have hnc39 := NB181_180.out; obtain ⟨hcz40_0, hcz40_1, hfz40_0, hfz40_1⟩ := bcf2 (W := w37) BK180; have hnb41 := NB181_172.out; have hnc41 := NB172_181.out; obtain ⟨hcz42_0, hcz42_1, hfz42_0, hfz42_1⟩ := bcf2 (W := w37) BK181; obtain ⟨hcz43_0, hcz43_1, hcz43_2, hcz43_3, hcz43_4, hcz43_5, hfz43_0, hfz43_1, hfz43_2, hfz43_3, hfz43_4, hfz43_5⟩ := bcf6 (W := w37) BK172)))
     go_roundg k2
     case measure => have := HK1.out; have := HK2.out; omega
     case rel => exact ⟨(wrap64 (t173 + ((rd_T41 l0 x31_2).f1))), (wrap64 (t174 + ((rd_T41 l0 x31_2).f3))), (true), (true), (wrap64 (x31_2 + 1)), eqNow, eqNow, eqNow, eqNow, eqNow, H', ⟨by have := HK1.out; have := HK2.out; omega⟩, ⟨belPut⟩⟩
end Go.Proofs.YtecjoofjiockkaaDoor.Pp
