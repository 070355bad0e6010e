import Derived.Test.YtecjoofjiockkaaGreatDoorESt
import Derived.Test.YtecjoofjiockkaaGreatDoorPp0
import Derived.Test.YtecjoofjiockkaaGreatDoorPp6
import Derived.Test.YtecjoofjiockkaaGreatDoorPp10
import Derived.Test.YtecjoofjiockkaaGreatDoorPp11
import Derived.Test.YtecjoofjiockkaaGreatDoorPp18
import Derived.Test.YtecjoofjiockkaaGreatDoorPp27
import Derived.Test.YtecjoofjiockkaaGreatDoorENarrow
namespace Go.Proofs.YtecjoofjiockkaaGreatDoor.Pp
open Go.RowKit Go.Proofs.YtecjoofjiockkaaGreatDoor.Ext Go.Proofs.YtecjoofjiockkaaGreatDoorW.PrintWords Go.Proofs.YtecjoofjiockkaaGreatDoorW.PrintLast Go.Proofs.YtecjoofjiockkaaGreatDoorW.PrintMore
attribute [local go_sem] max2_int min2_int max_two min_two max_three min_three max_four min_four   -- for this text's walks alone
set_option linter.unusedVariables false
set_option linter.unusedSimpArgs false
def selvagelaw10_HunksNarrow.l0 : Nat → List (S29) → Int → Int → Option (Bool)
 | 0, _, _, _ => none
 | k + 1, x0, x1, x5 => if x5 < (x0.length : Int) then (if 0 ≤ x5 then ((selvagelaw10_twin.f ((rd_T29 x0 x5).f0) ((rd_T29 x0 x5).f1) ((rd_T29 x0 x5).f2) ((rd_T29 x0 x5).f3) ((rd_T29 x0 x5).f4) ((rd_T29 x0 x5).f5)).bind fun bt615 => ((hunks_Narrow.f k bt615.1 bt615.2.1 bt615.2.2.1 bt615.2.2.2.1 bt615.2.2.2.2.1 bt615.2.2.2.2.2 x1).bind fun bt624 => ((selvageref10_Narrow.f k ((rd_T29 x0 x5).f0) ((rd_T29 x0 x5).f1) ((rd_T29 x0 x5).f2) ((rd_T29 x0 x5).f3) ((rd_T29 x0 x5).f4) ((rd_T29 x0 x5).f5) x1).bind fun bt629 => ((selvagelaw10_sameAll.f k bt624.1 bt629.1).bind fun t633 => (if t633 = true then ((selvagelaw10_num.f bt624.2).bind fun t634 => (if t634 = bt629.2 then ((selvagelaw10_same.f k bt615.1 bt615.2.1 bt615.2.2.1 bt615.2.2.2.1 bt615.2.2.2.2.1 bt615.2.2.2.2.2 ((rd_T29 x0 x5).f0) ((rd_T29 x0 x5).f1) ((rd_T29 x0 x5).f2) ((rd_T29 x0 x5).f3) ((rd_T29 x0 x5).f4) ((rd_T29 x0 x5).f5)).bind fun t636 => (if t636 = true then (selvagelaw10_HunksNarrow.l0 k x0 x1 (wrap64 (x5 + 1))) else (none))) else (none))) else (none)))))) else (none)) else ((selvagelaw10_works.f k).bind fun t613 => (some t613))
def selvagelaw10_HunksNarrow.f (k : Nat) (l0 : List (S29)) (a1 : Int) : Option (Bool) := selvagelaw10_HunksNarrow.l0 k l0 a1 0
def selvagelaw10_HunksNarrow.T7 : Bool × List (List Nat × List Nat) := (true, [([], []), ([], []), ([0, 1], [0, 1]), ([2], [2]), ([3, 2], [3]), ([4], [4]), ([5, 4, 4], [4, 5]), ([4], [4]), ([6, 7, 4], [4, 6, 7]), ([4, 8], [4, 8]), ([9, 6], [9]), ([10], [10]), ([10], [10]), ([10], [10]), ([12, 13, 10], [10, 12, 13]), ([14, 10], [10, 14]), ([11, 15, 10, 10], [10, 11, 15]), ([16, 10], [10, 16]), ([10, 17], [10, 17])])
def selvagelaw10_HunksNarrow.B7 : List Nat := [0, 0, 3, 7, 15, 31, 63, 31, 255, 511, 1023, 2047, 2047, 2047, 14335, 30719, 65535, 131071, 262143]
theorem selvagelaw10_HunksNarrow.tab7 : rtab .any (opsOf Tryz.f6 7) = selvagelaw10_HunksNarrow.T7 := by kernel_rfl
theorem selvagelaw10_HunksNarrow.bits7 : waitsOk selvagelaw10_HunksNarrow.T7.2 selvagelaw10_HunksNarrow.B7 = true := by kernel_rfl
set_option maxHeartbeats 8000000 in
set_option maxRecDepth 100000 in
theorem selvagelaw10_HunksNarrow.calls (k : Nat) (A0 : Option Addr) (c0 : Nat) (l0 : List (S29)) (a1 : Int) (r : Bool) (w : World) (hr0 : Kd.C k29 w A0 l0.length l0) (hc0 : l0.length ≤ c0) (hGL : Glob w) (h : selvagelaw10_HunksNarrow.f k l0 a1 = some r) :
  Calls Tryz.prog 6 #[.slice A0 l0.length c0, .int .i64 a1] w fun e w' => e = .returned (.bool r) ∧ Below w.heap.size w w' := by
 have hu29 := Tryz.underlying29
 have HR0 := Aside0.mk hr0
 have HC0 := Aside0.mk hc0
 clear hr0 hc0
 have HB := Aside0.mk (Below.refl w.heap.size w)
 have H := h
 clear h
 unfold selvagelaw10_HunksNarrow.f at H
 have H' := Aside0.mk H
 clear H
 go_enter Tryz.func6, Tryz.ntmps6
 go_wp2
 go_loopg [5] k (fun kq v5 w' => ∃ (x5_1 : Int), v5 = .int .i64 x5_1 ∧ Aside0 (selvagelaw10_HunksNarrow.l0 kq l0 a1 x5_1 = some r) ∧ Aside0 (kq ≤ k) ∧ Aside0 (Below w.heap.size w w'))
 case atStart => exact ⟨(0), eqNow, H', ⟨Nat.le_refl _⟩, ⟨belNow⟩⟩
 case round =>
  clear H'
  obtain ⟨x5_1, rfl, HA, HK1, HB⟩ := hrel
  cases gk with
  | zero => exact absurd HA.out (by simp [selvagelaw10_HunksNarrow.l0])
  | succ k1 =>
   have H := HA.out
   clear HA
   simp only [selvagelaw10_HunksNarrow.l0] at H
   replace H := itLn H
   rcases H with ⟨-, c3b0, H⟩ | ⟨-, c3b0, H⟩
   ·replace H := bdS H
    obtain ⟨t613, A59, H⟩ := H
    obtain rfl := Option.some.inj H
    go_wp2_with (first | ((with_reducible refine gate_callee (f := 18) rfl ?_); refine goL (some 56) Tryz.func18 #[] ?_; (with_reducible refine (selvagelaw10_works.calls k1  t613 _ ?side1 A59.out).mono ?_); (case side1 => exact Glob.below hGL belNow); rintro e w60 ⟨rfl, hb⟩; refine ⟨_, rfl, ?_⟩; replace HB := hbD HB hb; clear hb))
    go_ret
    exact ⟨eqEnd, belNow⟩
   replace H := itLn H
   rcases H with ⟨_, _, H⟩ | ⟨-, c4b0, H⟩
   ·cases H
   replace H := bdS H
   obtain ⟨⟨t615, t616, t617, t618, t619, t620⟩, A5, H⟩ := H
   replace H : ((hunks_Narrow.f k1 t615 t616 t617 t618 t619 t620 a1).bind fun bt624 => ((selvageref10_Narrow.f k1 ((rd_T29 l0 x5_1).f0) ((rd_T29 l0 x5_1).f1) ((rd_T29 l0 x5_1).f2) ((rd_T29 l0 x5_1).f3) ((rd_T29 l0 x5_1).f4) ((rd_T29 l0 x5_1).f5) a1).bind fun bt629 => ((selvagelaw10_sameAll.f k1 bt624.1 bt629.1).bind fun t633 => (if t633 = true then ((selvagelaw10_num.f bt624.2).bind fun t634 => (if t634 = bt629.2 then ((selvagelaw10_same.f k1 t615 t616 t617 t618 t619 t620 ((rd_T29 l0 x5_1).f0) ((rd_T29 l0 x5_1).f1) ((rd_T29 l0 x5_1).f2) ((rd_T29 l0 x5_1).f3) ((rd_T29 l0 x5_1).f4) ((rd_T29 l0 x5_1).f5)).bind fun t636 => (if t636 = true then (selvagelaw10_HunksNarrow.l0 k1 l0 a1 (wrap64 (x5_1 + 1))) else (none))) else (none))) else (none))))) = some r := H
   replace H := bdS H
   obtain ⟨⟨t624, t627⟩, A6, H⟩ := H
   replace H : ((selvageref10_Narrow.f k1 ((rd_T29 l0 x5_1).f0) ((rd_T29 l0 x5_1).f1) ((rd_T29 l0 x5_1).f2) ((rd_T29 l0 x5_1).f3) ((rd_T29 l0 x5_1).f4) ((rd_T29 l0 x5_1).f5) a1).bind fun bt629 => ((selvagelaw10_sameAll.f k1 t624 bt629.1).bind fun t633 => (if t633 = true then ((selvagelaw10_num.f t627).bind fun t634 => (if t634 = bt629.2 then ((selvagelaw10_same.f k1 t615 t616 t617 t618 t619 t620 ((rd_T29 l0 x5_1).f0) ((rd_T29 l0 x5_1).f1) ((rd_T29 l0 x5_1).f2) ((rd_T29 l0 x5_1).f3) ((rd_T29 l0 x5_1).f4) ((rd_T29 l0 x5_1).f5)).bind fun t636 => (if t636 = true then (selvagelaw10_HunksNarrow.l0 k1 l0 a1 (wrap64 (x5_1 + 1))) else (none))) else (none))) else (none)))) = some r := H
   replace H := bdS H
   obtain ⟨⟨t629, t632⟩, A7, H⟩ := H
   replace H : ((selvagelaw10_sameAll.f k1 t624 t629).bind fun t633 => (if t633 = true then ((selvagelaw10_num.f t627).bind fun t634 => (if t634 = t632 then ((selvagelaw10_same.f k1 t615 t616 t617 t618 t619 t620 ((rd_T29 l0 x5_1).f0) ((rd_T29 l0 x5_1).f1) ((rd_T29 l0 x5_1).f2) ((rd_T29 l0 x5_1).f3) ((rd_T29 l0 x5_1).f4) ((rd_T29 l0 x5_1).f5)).bind fun t636 => (if t636 = true then (selvagelaw10_HunksNarrow.l0 k1 l0 a1 (wrap64 (x5_1 + 1))) else (none))) else (none))) else (none))) = some r := H
   replace H := bdS H
   obtain ⟨t633, A8, H⟩ := H
   by_cases c9 : t633 = true
   rotate_left
   ·rw [if_neg c9] at H
    exact absurd H (by simp)
   subst c9
   have H1 : ((selvagelaw10_num.f t627).bind fun t634 => (if t634 = t632 then ((selvagelaw10_same.f k1 t615 t616 t617 t618 t619 t620 ((rd_T29 l0 x5_1).f0) ((rd_T29 l0 x5_1).f1) ((rd_T29 l0 x5_1).f2) ((rd_T29 l0 x5_1).f3) ((rd_T29 l0 x5_1).f4) ((rd_T29 l0 x5_1).f5)).bind fun t636 => (if t636 = true then (selvagelaw10_HunksNarrow.l0 k1 l0 a1 (wrap64 (x5_1 + 1))) else (none))) else (none))) = some r := by rw [if_pos rfl] at H; exact H
   clear H
   have H := H1
   clear H1
   replace H := bdS H
   obtain ⟨t634, A10, H⟩ := H
   replace H := itEn H
   rcases H with ⟨_, _, _, H⟩ | ⟨-, c11b0, c11b1, H⟩
   ·cases H
   replace H := bdS H
   obtain ⟨t636, A12, H⟩ := H
   by_cases c13 : t636 = true
   rotate_left
   ·rw [if_neg c13] at H
    exact absurd H (by simp)
   subst c13
   have H1 : (selvagelaw10_HunksNarrow.l0 k1 l0 a1 (wrap64 (x5_1 + 1))) = some r := by rw [if_pos rfl] at H; exact H
   clear H
   have H := H1
   clear H1
   have H' := Aside0.mk H
   clear H
   obtain ⟨ad614, A614_5, c614_5, rfl, hx614_0, hx614_1, hx614_2, hx614_3, hx614_4, hx614_5, HC614_5, HR614_5, p614, q614⟩ := atU_T29 HR0 HB x5_1
   try go_wp2_with (first | ((with_reducible refine gate_callee (f := 25) rfl ?_); refine goL (some 21) Tryz.func25 #[.agg #[.int .i64 ((rd_T29 l0 x5_1).f0), .int .i64 ((rd_T29 l0 x5_1).f1), .int .i64 ((rd_T29 l0 x5_1).f2), .int .i64 ((rd_T29 l0 x5_1).f3), .string ((rd_T29 l0 x5_1).f4), .slice A614_5 ((rd_T29 l0 x5_1).f5).length c614_5]] ?_; (with_reducible refine (selvagelaw10_twin.calls ((rd_T29 l0 x5_1).f0) ((rd_T29 l0 x5_1).f1) ((rd_T29 l0 x5_1).f2) ((rd_T29 l0 x5_1).f3) ((rd_T29 l0 x5_1).f4) _ _ ((rd_T29 l0 x5_1).f5) t615 t616 t617 t618 t619 t620 _ ?side1 ?side2 A5.out).mono ?_); (case side1 => exact kcU HR614_5 HB); (case side2 => exact HC614_5.out); rintro e w14 ⟨v621, rfl, ho0, hb⟩; refine ⟨_, rfl, ?_⟩; have HO622 := Aside0.mk (Kd.R_lower ho0 (below_size belNow)); replace HB := hbD HB hb; clear hb; (try clear ho0)) | ((with_reducible refine gate_dst (N := 6) rfl ?_); refine boxEv (N := 6) #[.int .i64 0, .int .i64 0, .int .i64 0, .int .i64 0, .string (⟨#[]⟩ : ByteArray), .slice none 0 0] 29 ?_; intro gb623 hg w15 hbox hb; replace HO622 := Aside0.mk (Kd.R_below (kdUp HO622.out) hb); have BK623 := Aside0.mk hbox; have GW623 := gwN HB hg; have GE623 := GW623; replace HB := hbD HB hb; clear hb hbox hg; obtain ⟨hcz16_0, hcz16_1, hcz16_2, hcz16_3, hcz16_4, hcz16_5, hfz16_0, hfz16_1, hfz16_2, hfz16_3, hfz16_4, hfz16_5⟩ := bcf6 (W := w15) BK623; obtain ⟨Ao17, co17, eo17⟩ := Kd.R_slice HO622.out; subst eo17) | ((with_reducible refine gate_callee (f := 26) rfl ?_); refine goL (some 25) Tryz.func26 #[.agg #[.int .i64 t615, .int .i64 t616, .int .i64 t617, .int .i64 t618, .string t619, .slice Ao17 t620.length co17], .int .i64 a1] ?_; (with_reducible refine (hunks_Narrow.calls k1 t615 t616 t617 t618 t619 _ _ t620 a1 t624 t627 _ ?side1 ?side2 A6.out).mono ?_); (case side1 => refine (Kd.R_reads' (e := 53) (base := w.heap.size) (ok := fun k_ => True) (n := t620.length) (c := co17) ?_).2.2; exact (by (with_reducible repeat (first | apply Kd.R_alloc | apply Kd.R_drewN | apply Kd.R_drew)); exact (Kd.R_mono (Kd.R_far (p := ⟨gb623, 5, none⟩) (Kd.R_far (p := ⟨gb623, 4, none⟩) (Kd.R_far (p := ⟨gb623, 3, none⟩) (Kd.R_far (p := ⟨gb623, 2, none⟩) (Kd.R_far (p := ⟨gb623, 1, none⟩) (Kd.R_far (p := ⟨gb623, 0, none⟩) (Kd.R_types HO622.out BK623.out (by decide)) (fun _ hk => hk.2) (.int .i64 t615)) (fun _ hk => hk.2) (.int .i64 t616)) (fun _ hk => hk.2) (.int .i64 t617)) (fun _ hk => hk.2) (.int .i64 t618)) (fun _ hk => hk.2) (.string t619)) (fun _ hk => hk.2) (.slice Ao17 t620.length co17)) (fun _ h_ => h_.1)))); (case side2 => exact (Kd.R_reads' HO622.out).2.1); rintro e w18 ⟨v625, rfl, ho0, hb⟩; refine ⟨_, rfl, ?_⟩; have HO626 := Aside0.mk (Kd.S_lower (Kd.S_newB (Kd.S_new' ho0 (Kd.R_lt (by (with_reducible repeat (first | apply Kd.R_alloc | apply Kd.R_drewN | apply Kd.R_drew)); exact (Kd.R_mono (Kd.R_far (p := ⟨gb623, 5, none⟩) (Kd.R_far (p := ⟨gb623, 4, none⟩) (Kd.R_far (p := ⟨gb623, 3, none⟩) (Kd.R_far (p := ⟨gb623, 2, none⟩) (Kd.R_far (p := ⟨gb623, 1, none⟩) (Kd.R_far (p := ⟨gb623, 0, none⟩) (Kd.R_types HO622.out BK623.out (by decide)) (fun _ hk => hk.2) (.int .i64 t615)) (fun _ hk => hk.2) (.int .i64 t616)) (fun _ hk => hk.2) (.int .i64 t617)) (fun _ hk => hk.2) (.int .i64 t618)) (fun _ hk => hk.2) (.string t619)) (fun _ hk => hk.2) (.slice Ao17 t620.length co17)) (fun _ h_ => h_.1))))) (g := gb623) (o := .cells #[.int .i64 t615, .int .i64 t616, .int .i64 t617, .int .i64 t618, .string t619, .slice Ao17 t620.length co17] 29 (0, 0)) (bkT BK623)) (below_size (belPut))); replace HO622 := Aside0.mk (Kd.R_below (by (with_reducible repeat (first | apply Kd.R_alloc | apply Kd.R_drewN | apply Kd.R_drew)); exact (Kd.R_mono (Kd.R_far (p := ⟨gb623, 5, none⟩) (Kd.R_far (p := ⟨gb623, 4, none⟩) (Kd.R_far (p := ⟨gb623, 3, none⟩) (Kd.R_far (p := ⟨gb623, 2, none⟩) (Kd.R_far (p := ⟨gb623, 1, none⟩) (Kd.R_far (p := ⟨gb623, 0, none⟩) (Kd.R_types HO622.out BK623.out (by decide)) (fun _ hk => hk.2) (.int .i64 t615)) (fun _ hk => hk.2) (.int .i64 t616)) (fun _ hk => hk.2) (.int .i64 t617)) (fun _ hk => hk.2) (.int .i64 t618)) (fun _ hk => hk.2) (.string t619)) (fun _ hk => hk.2) (.slice Ao17 t620.length co17)) (fun _ h_ => h_.1))) hb); replace BK623 := bkD BK623 hb; replace HB := hbD HB hb; clear hb; (try clear ho0); (try simp only [errW_none, errW_some]); have p628 : 0 ≤ (x5_1 : Int) := ofDec; have q628 : x5_1 < (l0.length : Int) := ofDec; obtain ⟨ad628, A628_5, c628_5, e628, hx628_0, hx628_1, hx628_2, hx628_3, hx628_4, hx628_5, hl628_5, hi628_5⟩ := at_T29 HR0.out x5_1 p628 q628; obtain rfl : ad614 = ad628 := (by injection e628); replace hx628_0 := (HB.out.cell (World.block_lt_of_cell? w _ hx628_0)).trans hx628_0; replace hx628_1 := (HB.out.cell (World.block_lt_of_cell? w _ hx628_1)).trans hx628_1; replace hx628_2 := (HB.out.cell (World.block_lt_of_cell? w _ hx628_2)).trans hx628_2; replace hx628_3 := (HB.out.cell (World.block_lt_of_cell? w _ hx628_3)).trans hx628_3; replace hx628_4 := (HB.out.cell (World.block_lt_of_cell? w _ hx628_4)).trans hx628_4; replace hx628_5 := (HB.out.cell (World.block_lt_of_cell? w _ hx628_5)).trans hx628_5; have HR628_5 := Aside0.mk hi628_5; have HC628_5 := Aside0.mk hl628_5; clear hi628_5 hl628_5; replace p628 := eq_true p628; replace q628 := eq_true q628) | ((with_reducible refine gate_callee (f := 27) rfl ?_); refine goL (some 34) Tryz.func27 #[.agg #[.int .i64 ((rd_T29 l0 x5_1).f0), .int .i64 ((rd_T29 l0 x5_1).f1), .int .i64 ((rd_T29 l0 x5_1).f2), .int .i64 ((rd_T29 l0 x5_1).f3), .string ((rd_T29 l0 x5_1).f4), .slice A628_5 ((rd_T29 l0 x5_1).f5).length c628_5], .int .i64 a1] ?_; (with_reducible refine (selvageref10_Narrow.calls k1 ((rd_T29 l0 x5_1).f0) ((rd_T29 l0 x5_1).f1) ((rd_T29 l0 x5_1).f2) ((rd_T29 l0 x5_1).f3) ((rd_T29 l0 x5_1).f4) _ _ ((rd_T29 l0 x5_1).f5) a1 t629 t632 _ ?side1 ?side2 A7.out).mono ?_); (case side1 => exact kcU HR628_5 HB); (case side2 => exact HC628_5.out); rintro e w19 ⟨v630, rfl, ho0, hb⟩; refine ⟨_, rfl, ?_⟩; have HO631 := Aside0.mk (Kd.S_lower (Kd.S_newB (Kd.S_new' (Kd.S_new' ho0 (Kd.R_lt (kdUp HO622.out))) (Kd.S_lt (by (with_reducible repeat (first | apply Kd.S_alloc | apply Kd.S_drewN | apply Kd.S_drew)); exact HO626.out))) (g := gb623) (o := .cells #[.int .i64 t615, .int .i64 t616, .int .i64 t617, .int .i64 t618, .string t619, .slice Ao17 t620.length co17] 29 (0, 0)) (bkUp BK623.out)) (below_size (belPut))); replace HO622 := Aside0.mk (Kd.R_below (kdUp HO622.out) hb); replace HO626 := Aside0.mk (Kd.S_elder' (by (with_reducible repeat (first | apply Kd.S_alloc | apply Kd.S_drewN | apply Kd.S_drew)); exact HO626.out) (Kd.S_base ho0) hb); replace BK623 := bkD BK623 hb; replace HB := hbD HB hb; clear hb; (try clear ho0)))
   replace HO622 := Aside0.mk (Kd.R_drew HO622.out)
   replace HO626 := Aside0.mk (Kd.S_drew HO626.out)
   replace HO631 := Aside0.mk (Kd.S_drew HO631.out)
   replace BK623 := Aside0.mk (blk_drew BK623.out)
   replace HB := Aside0.mk (below_drew1 HB.out)
   obtain ⟨Ao21, co21, eo21⟩ := Kd.S_slice HO626.out
   (first | subst eo21 | (injection eo21 with f1_ f2_ f3_; have f4_ := f1_.symm; have f5_ := f3_.symm; clear f1_ f2_ f3_; subst f4_; subst f5_))
   obtain ⟨Ao22, co22, eo22⟩ := Kd.S_slice HO631.out
   (first | subst eo22 | (injection eo22 with f1_ f2_ f3_; have f4_ := f1_.symm; have f5_ := f3_.symm; clear f1_ f2_ f3_; subst f4_; subst f5_))
   have p635 : 0 ≤ (x5_1 : Int) := ofDec
   have q635 : x5_1 < (l0.length : Int) := ofDec
   obtain ⟨ad635, A635_5, c635_5, e635, hx635_0, hx635_1, hx635_2, hx635_3, hx635_4, hx635_5, hl635_5, hi635_5⟩ := at_T29 HR0.out x5_1 p635 q635
   have hw635_5 := hx635_5
   have hw635_4 := hx635_4
   have hw635_3 := hx635_3
   have hw635_2 := hx635_2
   have hw635_1 := hx635_1
   have hw635_0 := hx635_0
   obtain rfl : ad614 = ad635 := (by injection e635)
   replace hx635_0 := cUp HB.out hx635_0
   replace hx635_1 := cUp HB.out hx635_1
   replace hx635_2 := cUp HB.out hx635_2
   replace hx635_3 := cUp HB.out hx635_3
   replace hx635_4 := cUp HB.out hx635_4
   replace hx635_5 := cUp HB.out hx635_5
   have HR635_5 := Aside0.mk hi635_5
   have HC635_5 := Aside0.mk hl635_5
   clear hi635_5 hl635_5
   replace p635 := eq_true p635
   replace q635 := eq_true q635
   refine start_ (n := 19) (S := fun w' => w'.cell? ⟨gb623, 0, none⟩ = some (.int .i64 t615) ∧ w'.cell? ⟨gb623, 1, none⟩ = some (.int .i64 t616) ∧ w'.cell? ⟨gb623, 2, none⟩ = some (.int .i64 t617) ∧ w'.cell? ⟨gb623, 3, none⟩ = some (.int .i64 t618) ∧ w'.cell? ⟨gb623, 4, none⟩ = some (.string t619) ∧ w'.cell? ⟨gb623, 5, none⟩ = some (.slice Ao17 t620.length co17) ∧ w'.cell? (ad614.add ((x5_1).toNat * 6)) = some (.int .i64 ((rd_T29 l0 x5_1).f0)) ∧ w'.cell? ⟨(ad614.add ((x5_1).toNat * 6)).block, (ad614.add ((x5_1).toNat * 6)).off + 1, none⟩ = some (.int .i64 ((rd_T29 l0 x5_1).f1)) ∧ w'.cell? ⟨(ad614.add ((x5_1).toNat * 6)).block, (ad614.add ((x5_1).toNat * 6)).off + 2, none⟩ = some (.int .i64 ((rd_T29 l0 x5_1).f2)) ∧ w'.cell? ⟨(ad614.add ((x5_1).toNat * 6)).block, (ad614.add ((x5_1).toNat * 6)).off + 3, none⟩ = some (.int .i64 ((rd_T29 l0 x5_1).f3)) ∧ w'.cell? ⟨(ad614.add ((x5_1).toNat * 6)).block, (ad614.add ((x5_1).toNat * 6)).off + 4, none⟩ = some (.string ((rd_T29 l0 x5_1).f4)) ∧ w'.cell? ⟨(ad614.add ((x5_1).toNat * 6)).block, (ad614.add ((x5_1).toNat * 6)).off + 5, none⟩ = some (.slice A635_5 ((rd_T29 l0 x5_1).f5).length c635_5)) (ds := []) #[false, false, false, false, false, false, false, false, false, false, false, false, false, false, false, false, false, false, false] (by kernel_rfl) rfl rfl ⟨bc BK623 0, bc BK623 1, bc BK623 2, bc BK623 3, bc BK623 4, bc BK623 5, (cUp HB.out hw635_0 :), (cUp HB.out hw635_1 :), (cUp HB.out hw635_2 :), (cUp HB.out hw635_3 :), (cUp HB.out hw635_4 :), (cUp HB.out hw635_5 :)⟩ (fun hHeld => ?_); refine with_tabW selvagelaw10_HunksNarrow.tab7 selvagelaw10_HunksNarrow.bits7 (fun HT_ HW_ => ?_)
   generalize w19.drew = w20 at HO622 HO626 HO631 BK623 HB HR635_5 hx635_0 hx635_1 hx635_2 hx635_3 hx635_4 hx635_5 hHeld ⊢
   refine pureT 0 ?_
   refine pureT 1 ?_
   refine one_ (i := 2) (N := some 39) #[true, true, true, false, false, false, false, false, false, false, false, false, false, false, false, false, false, false, false] rfl rfl (one_of HT_.out (by kernel_rfl)) (by decide) (fun K hK => ?_)
   refine goes_ Tryz.func17 (by kernel_rfl) rfl #[.slice Ao21 t624.length co21, .slice Ao22 t629.length co22] (by rfl) rfl rfl argsOk ?_
   with_reducible refine (selvagelaw10_sameAll.calls k1 _ _ t624 _ _ t629 true _ ?side1 ?side2 ?side3 ?side4 A8.out).mono ?_
   (case side1 => repeat (first | exact (Kd.S_reads' HO626.out).2.2 | (with_reducible refine Kd.C_alloc ?_ _) | (with_reducible refine Kd.C_drewN ?_ _) | (with_reducible refine Kd.C_drew ?_)))
   (case side2 => exact (Kd.S_reads' HO626.out).2.1)
   (case side3 => repeat (first | exact (Kd.S_reads' HO631.out).2.2 | (with_reducible refine Kd.C_alloc ?_ _) | (with_reducible refine Kd.C_drewN ?_ _) | (with_reducible refine Kd.C_drew ?_)))
   (case side4 => exact (Kd.S_reads' HO631.out).2.1)
   rintro e w23 ⟨rfl, hb⟩
   refine ⟨_, rfl, ?_⟩
   replace HO622 := Aside0.mk (Kd.R_below (kdUp HO622.out) hb)
   replace HO626 := Aside0.mk (Kd.S_below (by (with_reducible repeat (first | apply Kd.S_alloc | apply Kd.S_drewN | apply Kd.S_drew)); exact HO626.out) hb)
   replace HO631 := Aside0.mk (Kd.S_below (by (with_reducible repeat (first | apply Kd.S_alloc | apply Kd.S_drewN | apply Kd.S_drew)); exact HO631.out) hb)
   replace BK623 := bkD BK623 hb
   replace HB := hbD HB hb
   (try clear hb)
   (try clear hb2)
   (try clear hk)
   (try clear hi)
   have CA10 := fun W (hG_ : Glob W) => selvagelaw10_num.calls t627 t634 W hG_ A10.out
   try simp only [errW_none, errW_some] at CA10
   refine hK.out _ _ ⟨bc BK623 0, bc BK623 1, bc BK623 2, bc BK623 3, bc BK623 4, bc BK623 5, (cUp HB.out hw635_0 :), (cUp HB.out hw635_1 :), (cUp HB.out hw635_2 :), (cUp HB.out hw635_3 :), (cUp HB.out hw635_4 :), (cUp HB.out hw635_5 :)⟩ (fun hHeld => ?_)
   clear hK K
   refine norm_ (a' := ?_) ?_ ?_
   rotate_left
   ·show Act.put _ (some 39) _ = _
    simp only [Act.put, List.setIfInBounds_toArray, List.set_cons_zero, List.set_cons_succ, i64_w, i32_w]
    rfl
   refine pureT 3 ?_
   refine pureT 4 ?_
   refine pureT 5 ?_
   refine pureT 7 ?_
   refine one_ (i := 6) (N := some 43) #[true, true, true, true, true, true, true, true, false, false, false, false, false, false, false, false, false, false, false] rfl rfl (one_of HT_.out (by kernel_rfl)) (by decide) (fun K hK => ?_)
   refine goes_ Tryz.func11 (by kernel_rfl) rfl #[errW t627] (by rfl) rfl rfl argsOk ?_
   with_reducible refine (CA10 _ ?side1).mono ?_
   (case side1 => exact Glob.below hGL (belPut))
   rintro e w24 ⟨rfl, hb⟩
   refine ⟨_, rfl, ?_⟩
   replace HO622 := Aside0.mk (Kd.R_below (kdUp HO622.out) hb)
   replace HO626 := Aside0.mk (Kd.S_below (by (with_reducible repeat (first | apply Kd.S_alloc | apply Kd.S_drewN | apply Kd.S_drew)); exact HO626.out) hb)
   replace HO631 := Aside0.mk (Kd.S_below (by (with_reducible repeat (first | apply Kd.S_alloc | apply Kd.S_drewN | apply Kd.S_drew)); exact HO631.out) hb)
   replace BK623 := bkD BK623 hb
   replace HB := hbD HB hb
   (try clear hb)
   (try clear hb2)
   (try clear hk)
   (try clear hi)
   refine hK.out _ _ ⟨bc BK623 0, bc BK623 1, bc BK623 2, bc BK623 3, bc BK623 4, bc BK623 5, (cUp HB.out hw635_0 :), (cUp HB.out hw635_1 :), (cUp HB.out hw635_2 :), (cUp HB.out hw635_3 :), (cUp HB.out hw635_4 :), (cUp HB.out hw635_5 :)⟩ (fun hHeld => ?_)
   clear hK K
   refine norm_ (a' := ?_) ?_ ?_
   rotate_left
   ·show Act.put _ (some 43) _ = _
    simp only [Act.put, List.setIfInBounds_toArray, List.set_cons_zero, List.set_cons_succ, i64_w, i32_w]
    rfl
   refine pureT 8 ?_
   refine pureT 9 ?_
   refine pureT 10 ?_
   refine pureT 12 ?_
   refine pureT 13 ?_
   refine pureT 14 ?_
   refine takeT 11 hHeld ?_
   refine takeT 15 hHeld ?_
   refine one_ (i := 16) (N := some 53) #[true, true, true, true, true, true, true, true, true, true, true, true, true, true, true, true, true, false, false] rfl rfl (one_of HT_.out (by kernel_rfl)) (by decide) (fun K hK => ?_)
   refine goes_ Tryz.func28 (by kernel_rfl) rfl #[.agg #[.int .i64 t615, .int .i64 t616, .int .i64 t617, .int .i64 t618, .string t619, .slice Ao17 t620.length co17], .agg #[.int .i64 ((rd_T29 l0 x5_1).f0), .int .i64 ((rd_T29 l0 x5_1).f1), .int .i64 ((rd_T29 l0 x5_1).f2), .int .i64 ((rd_T29 l0 x5_1).f3), .string ((rd_T29 l0 x5_1).f4), .slice A635_5 ((rd_T29 l0 x5_1).f5).length c635_5]] (by rfl) rfl rfl argsOk ?_
   with_reducible refine (selvagelaw10_same.calls k1 t615 t616 t617 t618 t619 _ _ t620 ((rd_T29 l0 x5_1).f0) ((rd_T29 l0 x5_1).f1) ((rd_T29 l0 x5_1).f2) ((rd_T29 l0 x5_1).f3) ((rd_T29 l0 x5_1).f4) _ _ ((rd_T29 l0 x5_1).f5) true _ ?side1 ?side2 ?side3 ?side4 A12.out).mono ?_
   (case side1 => repeat (first | exact (Kd.R_reads' HO622.out).2.2 | (with_reducible refine Kd.C_alloc ?_ _) | (with_reducible refine Kd.C_drewN ?_ _) | (with_reducible refine Kd.C_drew ?_)))
   (case side2 => exact (Kd.R_reads' HO622.out).2.1)
   (case side3 => exact kcU HR635_5 HB)
   (case side4 => exact HC635_5.out)
   rintro e w25 ⟨rfl, hb⟩
   refine ⟨_, rfl, ?_⟩
   replace HO622 := Aside0.mk (Kd.R_below (kdUp HO622.out) hb)
   replace HO626 := Aside0.mk (Kd.S_below (by (with_reducible repeat (first | apply Kd.S_alloc | apply Kd.S_drewN | apply Kd.S_drew)); exact HO626.out) hb)
   replace HO631 := Aside0.mk (Kd.S_below (by (with_reducible repeat (first | apply Kd.S_alloc | apply Kd.S_drewN | apply Kd.S_drew)); exact HO631.out) hb)
   replace BK623 := bkD BK623 hb
   replace HB := hbD HB hb
   (try clear hb)
   (try clear hb2)
   (try clear hk)
   (try clear hi)
   refine hK.out _ _ ⟨bc BK623 0, bc BK623 1, bc BK623 2, bc BK623 3, bc BK623 4, bc BK623 5, (cUp HB.out hw635_0 :), (cUp HB.out hw635_1 :), (cUp HB.out hw635_2 :), (cUp HB.out hw635_3 :), (cUp HB.out hw635_4 :), (cUp HB.out hw635_5 :)⟩ (fun hHeld => ?_)
   clear hK K
   refine norm_ (a' := ?_) ?_ ?_
   rotate_left
   ·show Act.put _ (some 53) _ = _
    simp only [Act.put, List.setIfInBounds_toArray, List.set_cons_zero, List.set_cons_succ, i64_w, i32_w]
    rfl
   refine pureT 17 ?_
   refine pureT 18 ?_
   refine done_ (done_of HT_.out (by kernel_rfl)) ?_
   try go_wp2
   go_roundg k1
   case measure => have := HK1.out; omega
   case rel => exact ⟨(wrap64 (x5_1 + 1)), eqNow, H', ⟨by have := HK1.out; omega⟩, ⟨belPut⟩⟩
end Go.Proofs.YtecjoofjiockkaaGreatDoor.Pp
