import Derived.Test.YtecjoofjiockkaaDoorESt
import Derived.Test.YtecjoofjiockkaaDoorPp0
import Derived.Test.YtecjoofjiockkaaDoorESides
set_option linter.unusedVariables false
set_option linter.unusedSimpArgs false
namespace Go.Proofs.YtecjoofjiockkaaDoor.Pp
open Go.RowKit Go.Proofs.YtecjoofjiockkaaDoor.Ext Go.Proofs.YtecjoofjiockkaaDoorW.PrintWords Go.Proofs.YtecjoofjiockkaaDoorW.PrintLast Go.Proofs.YtecjoofjiockkaaDoorW.PrintMore
attribute [local go_sem] max2_int min2_int max_two min_two max_three min_three max_four min_four
def hunks_place.f (a0 : Int) (a1 : Int) : Option (Bool) := if a1 ≥ 0 then (if a0 ≥ 0 then (if a0 > 0 then (if a0 ≤ 2147483647 then (some (decide (a1 ≤ (wrap64 (2147483647 - a0))))) else (some false)) else (if a1 = 0 then (if a0 ≤ 2147483647 then (some (decide (a1 ≤ (wrap64 (2147483647 - a0))))) else (some false)) else (some false))) else (some false)) else (some false)
set_option maxHeartbeats 8000000 in
set_option maxRecDepth 100000 in
theorem hunks_place.calls (a0 : Int) (a1 : Int) (r : Bool) (w : World) (h : hunks_place.f a0 a1 = some r) :
  Calls Tryd.prog 41 #[.int .i64 a0, .int .i64 a1] w fun e w' => e = .returned (.bool r) ∧ Drawn0 w w' := by
 have H := h
 clear h
 unfold hunks_place.f at H
 replace H := itHn H
 rcases H with ⟨-, c3b0, H⟩ | ⟨-, c3b0, H⟩
 ·obtain rfl := Option.some.inj H
  go_enter Tryd.func41, Tryd.ntmps41
  go_wp2
  go_ret
  exact ⟨eqFin, drawnNow⟩
 replace H := itHn H
 rcases H with ⟨-, c4b0, H⟩ | ⟨-, c4b0, H⟩
 ·obtain rfl := Option.some.inj H
  go_enter Tryd.func41, Tryd.ntmps41
  go_wp2
  go_ret
  exact ⟨eqFin, drawnNow⟩
 replace H := itG H
 rcases H with ⟨-, c5b0, H⟩ | ⟨-, c5b0, H⟩
 ·replace H := itL H
  rcases H with ⟨-, c6b0, H⟩ | ⟨-, c6b0, H⟩
  ·obtain rfl := Option.some.inj H
   go_enter Tryd.func41, Tryd.ntmps41
   go_wp2
   go_ret
   exact ⟨eqFin, drawnNow⟩
  obtain rfl := Option.some.inj H
  go_enter Tryd.func41, Tryd.ntmps41
  go_wp2
  go_ret
  exact ⟨eqFin, drawnNow⟩
 replace H := itEn H
 rcases H with ⟨c7, c7b0, c7b1, H⟩ | ⟨-, c7b0, c7b1, H⟩
 ·obtain rfl := Option.some.inj H
  go_enter Tryd.func41, Tryd.ntmps41
  go_wp2
  go_ret
  exact ⟨eqFin, drawnNow⟩
 replace H := itL H
 rcases H with ⟨-, c8b0, H⟩ | ⟨-, c8b0, H⟩
 ·obtain rfl := Option.some.inj H
  go_enter Tryd.func41, Tryd.ntmps41
  go_wp2
  go_ret
  exact ⟨eqFin, drawnNow⟩
 obtain rfl := Option.some.inj H
 go_enter Tryd.func41, Tryd.ntmps41
 go_wp2
 go_ret
 exact ⟨eqFin, drawnNow⟩
def hunks_Valid.f (a0_0 : Int) (a0_1 : Int) (a0_2 : Int) (a0_3 : Int) (a0_4 : ByteArray) (l0_5 : List (S56)) : Option (Option Int) := (hunks_sides.f a0_0 a0_1 a0_2 a0_3 a0_4 l0_5).bind fun bt110 => (if bt110.2.2.2.2 = true then (if bt110.1 = a0_1 then (if bt110.2.2.1 = a0_3 then ((hunks_place.f a0_0 a0_1).bind fun t117 => (if t117 = true then ((hunks_place.f a0_2 a0_3).bind fun t118 => (if t118 = true then (if (a0_4.size : Int) > 4096 then (some (some 100)) else ((strings_Contains.f a0_4 (⟨#[10]⟩ : ByteArray)).bind fun t119 => (if t119 = true then (some (some 100)) else (some none)))) else (some (some 100)))) else (some (some 100)))) else (some (some 100))) else (some (some 100))) else (some (some 100)))
set_option maxHeartbeats 8000000 in
set_option maxRecDepth 100000 in
theorem hunks_Valid.calls (a0_0 : Int) (a0_1 : Int) (a0_2 : Int) (a0_3 : Int) (a0_4 : ByteArray) (A0_5 : Option Addr) (c0_5 : Nat) (l0_5 : List (S56)) (r : Option Int) (w : World) (hr0_5 : Kd.C k56 w A0_5 l0_5.length l0_5) (hc0_5 : l0_5.length ≤ c0_5) (h : hunks_Valid.f a0_0 a0_1 a0_2 a0_3 a0_4 l0_5 = some r) :
  Calls Tryd.prog 24 #[.agg #[.int .i64 a0_0, .int .i64 a0_1, .int .i64 a0_2, .int .i64 a0_3, .string a0_4, .slice A0_5 l0_5.length c0_5]] w fun e w' => e = .returned (errW r) ∧ Below w.heap.size w w' := by
 have hu29 := Tryd.underlying41
 have hu77 := Tryd.underlying74
 have hu25 := Tryd.underlying28
 have hu73 := Tryd.underlying57
 have HR0_5 := Aside0.mk hr0_5
 have HC0_5 := Aside0.mk hc0_5
 clear hr0_5 hc0_5
 have HB := Aside0.mk (Below.refl w.heap.size w)
 have H := h
 clear h
 unfold hunks_Valid.f at H
 replace H := bdS H
 obtain ⟨⟨t110, t111, t112, t113, t114⟩, A2, H⟩ := H
 replace H : (if t114 = true then (if t110 = a0_1 then (if t112 = a0_3 then ((hunks_place.f a0_0 a0_1).bind fun t117 => (if t117 = true then ((hunks_place.f a0_2 a0_3).bind fun t118 => (if t118 = true then (if (a0_4.size : Int) > 4096 then (some (some 100)) else ((strings_Contains.f a0_4 (⟨#[10]⟩ : ByteArray)).bind fun t119 => (if t119 = true then (some (some 100)) else (some none)))) else (some (some 100)))) else (some (some 100)))) else (some (some 100))) else (some (some 100))) else (some (some 100))) = some r := H
 replace H := itBn H
 rcases H with ⟨rfl, H⟩ | ⟨rfl, H⟩
 ·obtain rfl := Option.some.inj H
  go_enter Tryd.func24, Tryd.ntmps24
  go_wp2_with (first | ((with_reducible refine gate_dst (N := 1) rfl ?_); (try (refine gate_guard (by rfl) ?_; dsimp only)); refine boxEv (N := 1) #[.int .i64 a0_0, .int .i64 a0_1, .int .i64 a0_2, .int .i64 a0_3, .string a0_4, .slice A0_5 l0_5.length c0_5] 41 ?_; intro gb109 hg w90 hbox hb; have BK109 := Aside0.mk hbox; have GW109 := gwN HB hg; have GE109 := GW109; replace HB := hbD HB hb; clear hb hbox hg; obtain ⟨hcz91_0, hcz91_1, hcz91_2, hcz91_3, hcz91_4, hcz91_5, hfz91_0, hfz91_1, hfz91_2, hfz91_3, hfz91_4, hfz91_5⟩ := bcf6 (W := w90) BK109) | ((with_reducible refine gate_callee (f := 34) rfl ?_); refine goL (some 8) Tryd.func34 #[.agg #[.int .i64 a0_0, .int .i64 a0_1, .int .i64 a0_2, .int .i64 a0_3, .string a0_4, .slice A0_5 l0_5.length c0_5]] ?_; (with_reducible refine (hunks_sides.calls a0_0 a0_1 a0_2 a0_3 a0_4 _ _ l0_5 t110 t111 t112 t113 false _ ?side1 ?side2 A2.out).mono ?_); (case side1 => exact kcU HR0_5 HB); (case side2 => exact HC0_5.out); rintro e w92 ⟨rfl, hb⟩; refine ⟨_, rfl, ?_⟩; replace BK109 := bkD BK109 hb; replace HB := hbD HB hb; clear hb) | ((with_reducible refine gate_dst (N := 3) rfl ?_); (try (refine gate_guard (by rfl) ?_; dsimp only)); refine boxEv (N := 3) #[.int .i64 0, .bool false] 74 ?_; intro gb115 hg w93 hbox hb; have BK115 := Aside0.mk hbox; have GW115 := gwN HB hg; have GE115 := GW115; replace HB := hbD HB hb; have NB109_115 := nbL BK109 hg; have NB115_109 := nbR BK109 hg; replace BK109 := bkD BK109 hb; clear hb hbox hg) | ((with_reducible refine gate_dst (N := 4) rfl ?_); (try (refine gate_guard (by rfl) ?_; dsimp only)); refine boxEv (N := 4) #[.int .i64 0, .bool false] 74 ?_; intro gb116 hg w94 hbox hb; have BK116 := Aside0.mk hbox; have GW116 := gwN HB hg; have GE116 := GW116; replace HB := hbD HB hb; have NB109_116 := nbL BK109 hg; have NB116_109 := nbR BK109 hg; replace BK109 := bkD BK109 hb; have NB115_116 := nbL BK115 hg; have NB116_115 := nbR BK115 hg; replace BK115 := bkD BK115 hb; clear hb hbox hg; have hnb95 := NB115_109.out; have hnc95 := NB109_115.out; have hnb96 := NB115_116.out; have hnc96 := NB116_115.out; obtain ⟨hcz97_0, hcz97_1, hfz97_0, hfz97_1⟩ := bcf2 (W := w94) BK115; have hnb98 := NB116_109.out; have hnc98 := NB109_116.out; obtain ⟨hcz99_0, hcz99_1, hfz99_0, hfz99_1⟩ := bcf2 (W := w94) BK116))
  go_ret
  exact ⟨eqEnd, belPut⟩
 replace H := itEn H
 rcases H with ⟨c4, c4b0, c4b1, H⟩ | ⟨-, c4b0, c4b1, H⟩
 ·obtain rfl := Option.some.inj H
  go_enter Tryd.func24, Tryd.ntmps24
  go_wp2_with (first | ((with_reducible refine gate_dst (N := 1) rfl ?_); (try (refine gate_guard (by rfl) ?_; dsimp only)); refine boxEv (N := 1) #[.int .i64 a0_0, .int .i64 a0_1, .int .i64 a0_2, .int .i64 a0_3, .string a0_4, .slice A0_5 l0_5.length c0_5] 41 ?_; intro gb109 hg w79 hbox hb; have BK109 := Aside0.mk hbox; have GW109 := gwN HB hg; have GE109 := GW109; replace HB := hbD HB hb; clear hb hbox hg; obtain ⟨hcz80_0, hcz80_1, hcz80_2, hcz80_3, hcz80_4, hcz80_5, hfz80_0, hfz80_1, hfz80_2, hfz80_3, hfz80_4, hfz80_5⟩ := bcf6 (W := w79) BK109) | ((with_reducible refine gate_callee (f := 34) rfl ?_); refine goL (some 8) Tryd.func34 #[.agg #[.int .i64 a0_0, .int .i64 a0_1, .int .i64 a0_2, .int .i64 a0_3, .string a0_4, .slice A0_5 l0_5.length c0_5]] ?_; (with_reducible refine (hunks_sides.calls a0_0 a0_1 a0_2 a0_3 a0_4 _ _ l0_5 t110 t111 t112 t113 true _ ?side1 ?side2 A2.out).mono ?_); (case side1 => exact kcU HR0_5 HB); (case side2 => exact HC0_5.out); rintro e w81 ⟨rfl, hb⟩; refine ⟨_, rfl, ?_⟩; replace BK109 := bkD BK109 hb; replace HB := hbD HB hb; clear hb) | ((with_reducible refine gate_dst (N := 3) rfl ?_); (try (refine gate_guard (by rfl) ?_; dsimp only)); refine boxEv (N := 3) #[.int .i64 0, .bool false] 74 ?_; intro gb115 hg w82 hbox hb; have BK115 := Aside0.mk hbox; have GW115 := gwN HB hg; have GE115 := GW115; replace HB := hbD HB hb; have NB109_115 := nbL BK109 hg; have NB115_109 := nbR BK109 hg; replace BK109 := bkD BK109 hb; clear hb hbox hg) | ((with_reducible refine gate_dst (N := 4) rfl ?_); (try (refine gate_guard (by rfl) ?_; dsimp only)); refine boxEv (N := 4) #[.int .i64 0, .bool false] 74 ?_; intro gb116 hg w83 hbox hb; have BK116 := Aside0.mk hbox; have GW116 := gwN HB hg; have GE116 := GW116; replace HB := hbD HB hb; have NB109_116 := nbL BK109 hg; have NB116_109 := nbR BK109 hg; replace BK109 := bkD BK109 hb; have NB115_116 := nbL BK115 hg; have NB116_115 := nbR BK115 hg; replace BK115 := bkD BK115 hb; clear hb hbox hg; have hnb84 := NB115_109.out; have hnc84 := NB109_115.out; have hnb85 := NB115_116.out; have hnc85 := NB116_115.out; obtain ⟨hcz86_0, hcz86_1, hfz86_0, hfz86_1⟩ := bcf2 (W := w83) BK115; have hnb87 := NB116_109.out; have hnc87 := NB109_116.out; obtain ⟨hcz88_0, hcz88_1, hfz88_0, hfz88_1⟩ := bcf2 (W := w83) BK116; obtain ⟨hcz89_0, hcz89_1, hcz89_2, hcz89_3, hcz89_4, hcz89_5, hfz89_0, hfz89_1, hfz89_2, hfz89_3, hfz89_4, hfz89_5⟩ := bcf6 (W := w83) BK109))
  go_ret
  exact ⟨eqEnd, belPut⟩
 replace H := itEn H
 rcases H with ⟨c5, c5b0, c5b1, H⟩ | ⟨-, c5b0, c5b1, H⟩
 ·obtain rfl := Option.some.inj H
  go_enter Tryd.func24, Tryd.ntmps24
  go_wp2_with (first | ((with_reducible refine gate_dst (N := 1) rfl ?_); (try (refine gate_guard (by rfl) ?_; dsimp only)); refine boxEv (N := 1) #[.int .i64 a0_0, .int .i64 a0_1, .int .i64 a0_2, .int .i64 a0_3, .string a0_4, .slice A0_5 l0_5.length c0_5] 41 ?_; intro gb109 hg w68 hbox hb; have BK109 := Aside0.mk hbox; have GW109 := gwN HB hg; have GE109 := GW109; replace HB := hbD HB hb; clear hb hbox hg; obtain ⟨hcz69_0, hcz69_1, hcz69_2, hcz69_3, hcz69_4, hcz69_5, hfz69_0, hfz69_1, hfz69_2, hfz69_3, hfz69_4, hfz69_5⟩ := bcf6 (W := w68) BK109) | ((with_reducible refine gate_callee (f := 34) rfl ?_); refine goL (some 8) Tryd.func34 #[.agg #[.int .i64 a0_0, .int .i64 a0_1, .int .i64 a0_2, .int .i64 a0_3, .string a0_4, .slice A0_5 l0_5.length c0_5]] ?_; (with_reducible refine (hunks_sides.calls a0_0 a0_1 a0_2 a0_3 a0_4 _ _ l0_5 t110 t111 t112 t113 true _ ?side1 ?side2 A2.out).mono ?_); (case side1 => exact kcU HR0_5 HB); (case side2 => exact HC0_5.out); rintro e w70 ⟨rfl, hb⟩; refine ⟨_, rfl, ?_⟩; replace BK109 := bkD BK109 hb; replace HB := hbD HB hb; clear hb) | ((with_reducible refine gate_dst (N := 3) rfl ?_); (try (refine gate_guard (by rfl) ?_; dsimp only)); refine boxEv (N := 3) #[.int .i64 0, .bool false] 74 ?_; intro gb115 hg w71 hbox hb; have BK115 := Aside0.mk hbox; have GW115 := gwN HB hg; have GE115 := GW115; replace HB := hbD HB hb; have NB109_115 := nbL BK109 hg; have NB115_109 := nbR BK109 hg; replace BK109 := bkD BK109 hb; clear hb hbox hg) | ((with_reducible refine gate_dst (N := 4) rfl ?_); (try (refine gate_guard (by rfl) ?_; dsimp only)); refine boxEv (N := 4) #[.int .i64 0, .bool false] 74 ?_; intro gb116 hg w72 hbox hb; have BK116 := Aside0.mk hbox; have GW116 := gwN HB hg; have GE116 := GW116; replace HB := hbD HB hb; have NB109_116 := nbL BK109 hg; have NB116_109 := nbR BK109 hg; replace BK109 := bkD BK109 hb; have NB115_116 := nbL BK115 hg; have NB116_115 := nbR BK115 hg; replace BK115 := bkD BK115 hb; clear hb hbox hg; have hnb73 := NB115_109.out; have hnc73 := NB109_115.out; have hnb74 := NB115_116.out; have hnc74 := NB116_115.out; obtain ⟨hcz75_0, hcz75_1, hfz75_0, hfz75_1⟩ := bcf2 (W := w72) BK115; have hnb76 := NB116_109.out; have hnc76 := NB109_116.out; obtain ⟨hcz77_0, hcz77_1, hfz77_0, hfz77_1⟩ := bcf2 (W := w72) BK116; obtain ⟨hcz78_0, hcz78_1, hcz78_2, hcz78_3, hcz78_4, hcz78_5, hfz78_0, hfz78_1, hfz78_2, hfz78_3, hfz78_4, hfz78_5⟩ := bcf6 (W := w72) BK109))
  go_ret
  exact ⟨eqEnd, belPut⟩
 replace H := bdS H
 obtain ⟨t117, A6, H⟩ := H
 replace H := itBn H
 rcases H with ⟨rfl, H⟩ | ⟨rfl, H⟩
 ·obtain rfl := Option.some.inj H
  go_enter Tryd.func24, Tryd.ntmps24
  go_wp2_with (first | ((with_reducible refine gate_dst (N := 1) rfl ?_); (try (refine gate_guard (by rfl) ?_; dsimp only)); refine boxEv (N := 1) #[.int .i64 a0_0, .int .i64 a0_1, .int .i64 a0_2, .int .i64 a0_3, .string a0_4, .slice A0_5 l0_5.length c0_5] 41 ?_; intro gb109 hg w57 hbox hb; have BK109 := Aside0.mk hbox; have GW109 := gwN HB hg; have GE109 := GW109; replace HB := hbD HB hb; clear hb hbox hg; obtain ⟨hcz58_0, hcz58_1, hcz58_2, hcz58_3, hcz58_4, hcz58_5, hfz58_0, hfz58_1, hfz58_2, hfz58_3, hfz58_4, hfz58_5⟩ := bcf6 (W := w57) BK109) | ((with_reducible refine gate_callee (f := 34) rfl ?_); refine goL (some 8) Tryd.func34 #[.agg #[.int .i64 a0_0, .int .i64 a0_1, .int .i64 a0_2, .int .i64 a0_3, .string a0_4, .slice A0_5 l0_5.length c0_5]] ?_; (with_reducible refine (hunks_sides.calls a0_0 a0_1 a0_2 a0_3 a0_4 _ _ l0_5 t110 t111 t112 t113 true _ ?side1 ?side2 A2.out).mono ?_); (case side1 => exact kcU HR0_5 HB); (case side2 => exact HC0_5.out); rintro e w59 ⟨rfl, hb⟩; refine ⟨_, rfl, ?_⟩; replace BK109 := bkD BK109 hb; replace HB := hbD HB hb; clear hb) | ((with_reducible refine gate_dst (N := 3) rfl ?_); (try (refine gate_guard (by rfl) ?_; dsimp only)); refine boxEv (N := 3) #[.int .i64 0, .bool false] 74 ?_; intro gb115 hg w60 hbox hb; have BK115 := Aside0.mk hbox; have GW115 := gwN HB hg; have GE115 := GW115; replace HB := hbD HB hb; have NB109_115 := nbL BK109 hg; have NB115_109 := nbR BK109 hg; replace BK109 := bkD BK109 hb; clear hb hbox hg) | ((with_reducible refine gate_dst (N := 4) rfl ?_); (try (refine gate_guard (by rfl) ?_; dsimp only)); refine boxEv (N := 4) #[.int .i64 0, .bool false] 74 ?_; intro gb116 hg w61 hbox hb; have BK116 := Aside0.mk hbox; have GW116 := gwN HB hg; have GE116 := GW116; replace HB := hbD HB hb; have NB109_116 := nbL BK109 hg; have NB116_109 := nbR BK109 hg; replace BK109 := bkD BK109 hb; have NB115_116 := nbL BK115 hg; have NB116_115 := nbR BK115 hg; replace BK115 := bkD BK115 hb; clear hb hbox hg; have hnb62 := NB115_109.out; have hnc62 := NB109_115.out; have hnb63 := NB115_116.out; have hnc63 := NB116_115.out; obtain ⟨hcz64_0, hcz64_1, hfz64_0, hfz64_1⟩ := bcf2 (W := w61) BK115; have hnb65 := NB116_109.out; have hnc65 := NB109_116.out; obtain ⟨hcz66_0, hcz66_1, hfz66_0, hfz66_1⟩ := bcf2 (W := w61) BK116; obtain ⟨hcz67_0, hcz67_1, hcz67_2, hcz67_3, hcz67_4, hcz67_5, hfz67_0, hfz67_1, hfz67_2, hfz67_3, hfz67_4, hfz67_5⟩ := bcf6 (W := w61) BK109) | (go_at_call 41; (with_reducible refine (hunks_place.calls a0_0 a0_1 false _ A6.out).mono ?_); rintro e w' ⟨rfl, ⟨nd, rfl⟩⟩))
  go_ret
  exact ⟨eqEnd, belPut⟩
 replace H := bdS H
 obtain ⟨t118, A8, H⟩ := H
 replace H := itBn H
 rcases H with ⟨rfl, H⟩ | ⟨rfl, H⟩
 ·obtain rfl := Option.some.inj H
  go_enter Tryd.func24, Tryd.ntmps24
  go_wp2_with (first | ((with_reducible refine gate_dst (N := 1) rfl ?_); (try (refine gate_guard (by rfl) ?_; dsimp only)); refine boxEv (N := 1) #[.int .i64 a0_0, .int .i64 a0_1, .int .i64 a0_2, .int .i64 a0_3, .string a0_4, .slice A0_5 l0_5.length c0_5] 41 ?_; intro gb109 hg w46 hbox hb; have BK109 := Aside0.mk hbox; have GW109 := gwN HB hg; have GE109 := GW109; replace HB := hbD HB hb; clear hb hbox hg; obtain ⟨hcz47_0, hcz47_1, hcz47_2, hcz47_3, hcz47_4, hcz47_5, hfz47_0, hfz47_1, hfz47_2, hfz47_3, hfz47_4, hfz47_5⟩ := bcf6 (W := w46) BK109) | ((with_reducible refine gate_callee (f := 34) rfl ?_); refine goL (some 8) Tryd.func34 #[.agg #[.int .i64 a0_0, .int .i64 a0_1, .int .i64 a0_2, .int .i64 a0_3, .string a0_4, .slice A0_5 l0_5.length c0_5]] ?_; (with_reducible refine (hunks_sides.calls a0_0 a0_1 a0_2 a0_3 a0_4 _ _ l0_5 t110 t111 t112 t113 true _ ?side1 ?side2 A2.out).mono ?_); (case side1 => exact kcU HR0_5 HB); (case side2 => exact HC0_5.out); rintro e w48 ⟨rfl, hb⟩; refine ⟨_, rfl, ?_⟩; replace BK109 := bkD BK109 hb; replace HB := hbD HB hb; clear hb) | ((with_reducible refine gate_dst (N := 3) rfl ?_); (try (refine gate_guard (by rfl) ?_; dsimp only)); refine boxEv (N := 3) #[.int .i64 0, .bool false] 74 ?_; intro gb115 hg w49 hbox hb; have BK115 := Aside0.mk hbox; have GW115 := gwN HB hg; have GE115 := GW115; replace HB := hbD HB hb; have NB109_115 := nbL BK109 hg; have NB115_109 := nbR BK109 hg; replace BK109 := bkD BK109 hb; clear hb hbox hg) | ((with_reducible refine gate_dst (N := 4) rfl ?_); (try (refine gate_guard (by rfl) ?_; dsimp only)); refine boxEv (N := 4) #[.int .i64 0, .bool false] 74 ?_; intro gb116 hg w50 hbox hb; have BK116 := Aside0.mk hbox; have GW116 := gwN HB hg; have GE116 := GW116; replace HB := hbD HB hb; have NB109_116 := nbL BK109 hg; have NB116_109 := nbR BK109 hg; replace BK109 := bkD BK109 hb; have NB115_116 := nbL BK115 hg; have NB116_115 := nbR BK115 hg; replace BK115 := bkD BK115 hb; clear hb hbox hg; have hnb51 := NB115_109.out; have hnc51 := NB109_115.out; have hnb52 := NB115_116.out; have hnc52 := NB116_115.out; obtain ⟨hcz53_0, hcz53_1, hfz53_0, hfz53_1⟩ := bcf2 (W := w50) BK115; have hnb54 := NB116_109.out; have hnc54 := NB109_116.out; obtain ⟨hcz55_0, hcz55_1, hfz55_0, hfz55_1⟩ := bcf2 (W := w50) BK116; obtain ⟨hcz56_0, hcz56_1, hcz56_2, hcz56_3, hcz56_4, hcz56_5, hfz56_0, hfz56_1, hfz56_2, hfz56_3, hfz56_4, hfz56_5⟩ := bcf6 (W := w50) BK109) | (go_at_call 41; (with_reducible refine (hunks_place.calls a0_0 a0_1 true _ A6.out).mono ?_); rintro e w' ⟨rfl, ⟨nd, rfl⟩⟩) | (go_at_call 41; (with_reducible refine (hunks_place.calls a0_2 a0_3 false _ A8.out).mono ?_); rintro e w' ⟨rfl, ⟨nd, rfl⟩⟩))
  go_ret
  exact ⟨eqEnd, belPut⟩
 replace H := itG H
 rcases H with ⟨c10, c10b0, H⟩ | ⟨c10, c10b0, H⟩
 ·have c10b1 : decide (4096 < a0_4.size) = true := decide_eq_true (by omega)
  clear c10
  obtain rfl := Option.some.inj H
  go_enter Tryd.func24, Tryd.ntmps24
  go_wp2_with (first | ((with_reducible refine gate_dst (N := 1) rfl ?_); (try (refine gate_guard (by rfl) ?_; dsimp only)); refine boxEv (N := 1) #[.int .i64 a0_0, .int .i64 a0_1, .int .i64 a0_2, .int .i64 a0_3, .string a0_4, .slice A0_5 l0_5.length c0_5] 41 ?_; intro gb109 hg w11 hbox hb; have BK109 := Aside0.mk hbox; have GW109 := gwN HB hg; have GE109 := GW109; replace HB := hbD HB hb; clear hb hbox hg; obtain ⟨hcz12_0, hcz12_1, hcz12_2, hcz12_3, hcz12_4, hcz12_5, hfz12_0, hfz12_1, hfz12_2, hfz12_3, hfz12_4, hfz12_5⟩ := bcf6 (W := w11) BK109) | ((with_reducible refine gate_callee (f := 34) rfl ?_); refine goL (some 8) Tryd.func34 #[.agg #[.int .i64 a0_0, .int .i64 a0_1, .int .i64 a0_2, .int .i64 a0_3, .string a0_4, .slice A0_5 l0_5.length c0_5]] ?_; (with_reducible refine (hunks_sides.calls a0_0 a0_1 a0_2 a0_3 a0_4 _ _ l0_5 t110 t111 t112 t113 true _ ?side1 ?side2 A2.out).mono ?_); (case side1 => exact kcU HR0_5 HB); (case side2 => exact HC0_5.out); rintro e w13 ⟨rfl, hb⟩; refine ⟨_, rfl, ?_⟩; replace BK109 := bkD BK109 hb; replace HB := hbD HB hb; clear hb) | ((with_reducible refine gate_dst (N := 3) rfl ?_); (try (refine gate_guard (by rfl) ?_; dsimp only)); refine boxEv (N := 3) #[.int .i64 0, .bool false] 74 ?_; intro gb115 hg w14 hbox hb; have BK115 := Aside0.mk hbox; have GW115 := gwN HB hg; have GE115 := GW115; replace HB := hbD HB hb; have NB109_115 := nbL BK109 hg; have NB115_109 := nbR BK109 hg; replace BK109 := bkD BK109 hb; clear hb hbox hg) | ((with_reducible refine gate_dst (N := 4) rfl ?_); (try (refine gate_guard (by rfl) ?_; dsimp only)); refine boxEv (N := 4) #[.int .i64 0, .bool false] 74 ?_; intro gb116 hg w15 hbox hb; have BK116 := Aside0.mk hbox; have GW116 := gwN HB hg; have GE116 := GW116; replace HB := hbD HB hb; have NB109_116 := nbL BK109 hg; have NB116_109 := nbR BK109 hg; replace BK109 := bkD BK109 hb; have NB115_116 := nbL BK115 hg; have NB116_115 := nbR BK115 hg; replace BK115 := bkD BK115 hb; clear hb hbox hg; have hnb16 := NB115_109.out; have hnc16 := NB109_115.out; have hnb17 := NB115_116.out; have hnc17 := NB116_115.out; obtain ⟨hcz18_0, hcz18_1, hfz18_0, hfz18_1⟩ := bcf2 (W := w15) BK115; have hnb19 := NB116_109.out; have hnc19 := NB109_116.out; obtain ⟨hcz20_0, hcz20_1, hfz20_0, hfz20_1⟩ := bcf2 (W := w15) BK116; obtain ⟨hcz21_0, hcz21_1, hcz21_2, hcz21_3, hcz21_4, hcz21_5, hfz21_0, hfz21_1, hfz21_2, hfz21_3, hfz21_4, hfz21_5⟩ := bcf6 (W := w15) BK109) | (go_at_call 41; (with_reducible refine (hunks_place.calls a0_0 a0_1 true _ A6.out).mono ?_); rintro e w' ⟨rfl, ⟨nd, rfl⟩⟩) | (go_at_call 41; (with_reducible refine (hunks_place.calls a0_2 a0_3 true _ A8.out).mono ?_); rintro e w' ⟨rfl, ⟨nd, rfl⟩⟩))
  go_ret
  exact ⟨eqEnd, belPut⟩
 have c10b1 : decide (4096 < a0_4.size) = false := decide_eq_false (by omega)
 clear c10
 replace H := bdS H
 obtain ⟨t119, A22, H⟩ := H
 replace H := itB H
 rcases H with ⟨rfl, H⟩ | ⟨rfl, H⟩
 ·obtain rfl := Option.some.inj H
  go_enter Tryd.func24, Tryd.ntmps24
  go_wp2_with (first | ((with_reducible refine gate_dst (N := 1) rfl ?_); (try (refine gate_guard (by rfl) ?_; dsimp only)); refine boxEv (N := 1) #[.int .i64 a0_0, .int .i64 a0_1, .int .i64 a0_2, .int .i64 a0_3, .string a0_4, .slice A0_5 l0_5.length c0_5] 41 ?_; intro gb109 hg w24 hbox hb; have BK109 := Aside0.mk hbox; have GW109 := gwN HB hg; have GE109 := GW109; replace HB := hbD HB hb; clear hb hbox hg; obtain ⟨hcz25_0, hcz25_1, hcz25_2, hcz25_3, hcz25_4, hcz25_5, hfz25_0, hfz25_1, hfz25_2, hfz25_3, hfz25_4, hfz25_5⟩ := bcf6 (W := w24) BK109) | ((with_reducible refine gate_callee (f := 34) rfl ?_); refine goL (some 8) Tryd.func34 #[.agg #[.int .i64 a0_0, .int .i64 a0_1, .int .i64 a0_2, .int .i64 a0_3, .string a0_4, .slice A0_5 l0_5.length c0_5]] ?_; (with_reducible refine (hunks_sides.calls a0_0 a0_1 a0_2 a0_3 a0_4 _ _ l0_5 t110 t111 t112 t113 true _ ?side1 ?side2 A2.out).mono ?_); (case side1 => exact kcU HR0_5 HB); (case side2 => exact HC0_5.out); rintro e w26 ⟨rfl, hb⟩; refine ⟨_, rfl, ?_⟩; replace BK109 := bkD BK109 hb; replace HB := hbD HB hb; clear hb) | ((with_reducible refine gate_dst (N := 3) rfl ?_); (try (refine gate_guard (by rfl) ?_; dsimp only)); refine boxEv (N := 3) #[.int .i64 0, .bool false] 74 ?_; intro gb115 hg w27 hbox hb; have BK115 := Aside0.mk hbox; have GW115 := gwN HB hg; have GE115 := GW115; replace HB := hbD HB hb; have NB109_115 := nbL BK109 hg; have NB115_109 := nbR BK109 hg; replace BK109 := bkD BK109 hb; clear hb hbox hg) | ((with_reducible refine gate_dst (N := 4) rfl ?_); (try (refine gate_guard (by rfl) ?_; dsimp only)); refine boxEv (N := 4) #[.int .i64 0, .bool false] 74 ?_; intro gb116 hg w28 hbox hb; have BK116 := Aside0.mk hbox; have GW116 := gwN HB hg; have GE116 := GW116; replace HB := hbD HB hb; have NB109_116 := nbL BK109 hg; have NB116_109 := nbR BK109 hg; replace BK109 := bkD BK109 hb; have NB115_116 := nbL BK115 hg; have NB116_115 := nbR BK115 hg; replace BK115 := bkD BK115 hb; clear hb hbox hg; have hnb29 := NB115_109.out; have hnc29 := NB109_115.out; have hnb30 := NB115_116.out; have hnc30 := NB116_115.out; obtain ⟨hcz31_0, hcz31_1, hfz31_0, hfz31_1⟩ := bcf2 (W := w28) BK115; have hnb32 := NB116_109.out; have hnc32 := NB109_116.out; obtain ⟨hcz33_0, hcz33_1, hfz33_0, hfz33_1⟩ := bcf2 (W := w28) BK116; obtain ⟨hcz34_0, hcz34_1, hcz34_2, hcz34_3, hcz34_4, hcz34_5, hfz34_0, hfz34_1, hfz34_2, hfz34_3, hfz34_4, hfz34_5⟩ := bcf6 (W := w28) BK109) | (go_at_call 41; (with_reducible refine (hunks_place.calls a0_0 a0_1 true _ A6.out).mono ?_); rintro e w' ⟨rfl, ⟨nd, rfl⟩⟩) | (go_at_call 41; (with_reducible refine (hunks_place.calls a0_2 a0_3 true _ A8.out).mono ?_); rintro e w' ⟨rfl, ⟨nd, rfl⟩⟩) | (go_at_call 42; (with_reducible refine (strings_Contains.calls a0_4 (⟨#[10]⟩ : ByteArray) true _ A22.out).mono ?_); rintro e w' ⟨rfl, ⟨nd, rfl⟩⟩))
  go_ret
  exact ⟨eqEnd, belPut⟩
 obtain rfl := Option.some.inj H
 go_enter Tryd.func24, Tryd.ntmps24
 go_wp2_with (first | ((with_reducible refine gate_dst (N := 1) rfl ?_); (try (refine gate_guard (by rfl) ?_; dsimp only)); refine boxEv (N := 1) #[.int .i64 a0_0, .int .i64 a0_1, .int .i64 a0_2, .int .i64 a0_3, .string a0_4, .slice A0_5 l0_5.length c0_5] 41 ?_; intro gb109 hg w35 hbox hb; have BK109 := Aside0.mk hbox; have GW109 := gwN HB hg; have GE109 := GW109; replace HB := hbD HB hb; clear hb hbox hg; obtain ⟨hcz36_0, hcz36_1, hcz36_2, hcz36_3, hcz36_4, hcz36_5, hfz36_0, hfz36_1, hfz36_2, hfz36_3, hfz36_4, hfz36_5⟩ := bcf6 (W := w35) BK109) | ((with_reducible refine gate_callee (f := 34) rfl ?_); refine goL (some 8) Tryd.func34 #[.agg #[.int .i64 a0_0, .int .i64 a0_1, .int .i64 a0_2, .int .i64 a0_3, .string a0_4, .slice A0_5 l0_5.length c0_5]] ?_; (with_reducible refine (hunks_sides.calls a0_0 a0_1 a0_2 a0_3 a0_4 _ _ l0_5 t110 t111 t112 t113 true _ ?side1 ?side2 A2.out).mono ?_); (case side1 => exact kcU HR0_5 HB); (case side2 => exact HC0_5.out); rintro e w37 ⟨rfl, hb⟩; refine ⟨_, rfl, ?_⟩; replace BK109 := bkD BK109 hb; replace HB := hbD HB hb; clear hb) | ((with_reducible refine gate_dst (N := 3) rfl ?_); (try (refine gate_guard (by rfl) ?_; dsimp only)); refine boxEv (N := 3) #[.int .i64 0, .bool false] 74 ?_; intro gb115 hg w38 hbox hb; have BK115 := Aside0.mk hbox; have GW115 := gwN HB hg; have GE115 := GW115; replace HB := hbD HB hb; have NB109_115 := nbL BK109 hg; have NB115_109 := nbR BK109 hg; replace BK109 := bkD BK109 hb; clear hb hbox hg) | ((with_reducible refine gate_dst (N := 4) rfl ?_); (try (refine gate_guard (by rfl) ?_; dsimp only)); refine boxEv (N := 4) #[.int .i64 0, .bool false] 74 ?_; intro gb116 hg w39 hbox hb; have BK116 := Aside0.mk hbox; have GW116 := gwN HB hg; have GE116 := GW116; replace HB := hbD HB hb; have NB109_116 := nbL BK109 hg; have NB116_109 := nbR BK109 hg; replace BK109 := bkD BK109 hb; have NB115_116 := nbL BK115 hg; have NB116_115 := nbR BK115 hg; replace BK115 := bkD BK115 hb; clear hb hbox hg; have hnb40 := NB115_109.out; have hnc40 := NB109_115.out; have hnb41 := NB115_116.out; have hnc41 := NB116_115.out; obtain ⟨hcz42_0, hcz42_1, hfz42_0, hfz42_1⟩ := bcf2 (W := w39) BK115; have hnb43 := NB116_109.out; have hnc43 := NB109_116.out; obtain ⟨hcz44_0, hcz44_1, hfz44_0, hfz44_1⟩ := bcf2 (W := w39) BK116; obtain ⟨hcz45_0, hcz45_1, hcz45_2, hcz45_3, hcz45_4, hcz45_5, hfz45_0, hfz45_1, hfz45_2, hfz45_3, hfz45_4, hfz45_5⟩ := bcf6 (W := w39) BK109) | (go_at_call 41; (with_reducible refine (hunks_place.calls a0_0 a0_1 true _ A6.out).mono ?_); rintro e w' ⟨rfl, ⟨nd, rfl⟩⟩) | (go_at_call 41; (with_reducible refine (hunks_place.calls a0_2 a0_3 true _ A8.out).mono ?_); rintro e w' ⟨rfl, ⟨nd, rfl⟩⟩) | (go_at_call 42; (with_reducible refine (strings_Contains.calls a0_4 (⟨#[10]⟩ : ByteArray) false _ A22.out).mono ?_); rintro e w' ⟨rfl, ⟨nd, rfl⟩⟩))
 go_ret
 exact ⟨eqEnd, belPut⟩
end Go.Proofs.YtecjoofjiockkaaDoor.Pp
