import Derived.Test.YtkoagpnoaibdjaaESt
import Derived.Test.YtkoagpnoaibdjaaPp0
import Derived.Test.YtkoagpnoaibdjaaESides
namespace Go.Proofs.Ytkoagpnoaibdjaa.Pp
open Go.RowKit Go.Proofs.Ytkoagpnoaibdjaa.Ext Go.Proofs.YtkoagpnoaibdjaaW.PrintWords Go.Proofs.YtkoagpnoaibdjaaW.PrintLast Go.Proofs.YtkoagpnoaibdjaaW.PrintMore
attribute [local go_sem] max2_int min2_int max_two min_two max_three min_three max_four min_four   -- for this text's walks alone
set_option linter.unusedVariables false
set_option linter.unusedSimpArgs false
def hunks_place.f (a0 : Int) (a1 : Int) : Option (Bool) := if a1 ≥ 0 then (if a0 ≥ 0 then (if a0 > 0 then (if a0 ≤ 2147483647 then (some (decide (a1 ≤ (wrap64 (2147483647 - a0))))) else (some false)) else (if a1 = 0 then (if a0 ≤ 2147483647 then (some (decide (a1 ≤ (wrap64 (2147483647 - a0))))) else (some false)) else (some false))) else (some false)) else (some false)
set_option maxHeartbeats 8000000 in
set_option maxRecDepth 100000 in
theorem hunks_place.calls (a0 : Int) (a1 : Int) (r : Bool) (w : World) (h : hunks_place.f a0 a1 = some r) :
  Calls Try.prog 48 #[.int .i64 a0, .int .i64 a1] w fun e w' => e = .returned (.bool r) ∧ Drawn0 w w' := by
 have H := h
 clear h
 unfold hunks_place.f at H
 replace H := itHn H
 rcases H with ⟨-, c3b0, H⟩ | ⟨-, c3b0, H⟩
 ·obtain rfl := Option.some.inj H
  go_enter Try.func48, Try.ntmps48
  go_wp2
  go_ret
  exact ⟨eqFin, drawnNow⟩
 replace H := itHn H
 rcases H with ⟨-, c4b0, H⟩ | ⟨-, c4b0, H⟩
 ·obtain rfl := Option.some.inj H
  go_enter Try.func48, Try.ntmps48
  go_wp2
  go_ret
  exact ⟨eqFin, drawnNow⟩
 replace H := itG H
 rcases H with ⟨-, c5b0, H⟩ | ⟨-, c5b0, H⟩
 ·replace H := itL H
  rcases H with ⟨-, c6b0, H⟩ | ⟨-, c6b0, H⟩
  ·obtain rfl := Option.some.inj H
   go_enter Try.func48, Try.ntmps48
   go_wp2
   go_ret
   exact ⟨eqFin, drawnNow⟩
  obtain rfl := Option.some.inj H
  go_enter Try.func48, Try.ntmps48
  go_wp2
  go_ret
  exact ⟨eqFin, drawnNow⟩
 replace H := itEn H
 rcases H with ⟨c7, c7b0, c7b1, H⟩ | ⟨-, c7b0, c7b1, H⟩
 ·obtain rfl := Option.some.inj H
  go_enter Try.func48, Try.ntmps48
  go_wp2
  go_ret
  exact ⟨eqFin, drawnNow⟩
 replace H := itL H
 rcases H with ⟨-, c8b0, H⟩ | ⟨-, c8b0, H⟩
 ·obtain rfl := Option.some.inj H
  go_enter Try.func48, Try.ntmps48
  go_wp2
  go_ret
  exact ⟨eqFin, drawnNow⟩
 obtain rfl := Option.some.inj H
 go_enter Try.func48, Try.ntmps48
 go_wp2
 go_ret
 exact ⟨eqFin, drawnNow⟩
def hunks_Valid.f (a0_0 : Int) (a0_1 : Int) (a0_2 : Int) (a0_3 : Int) (a0_4 : ByteArray) (l0_5 : List (S72)) : Option (Option Int) := (hunks_sides.f a0_0 a0_1 a0_2 a0_3 a0_4 l0_5).bind fun bt245 => (if bt245.2.2.2.2 = true then (if bt245.1 = a0_1 then (if bt245.2.2.1 = a0_3 then ((hunks_place.f a0_0 a0_1).bind fun t252 => (if t252 = true then ((hunks_place.f a0_2 a0_3).bind fun t253 => (if t253 = true then (if (a0_4.size : Int) > 4096 then (some (some 100)) else ((strings_Contains.f a0_4 (⟨#[10]⟩ : ByteArray)).bind fun t254 => (if t254 = true then (some (some 100)) else (some none)))) else (some (some 100)))) else (some (some 100)))) else (some (some 100))) else (some (some 100))) else (some (some 100)))
set_option maxHeartbeats 8000000 in
set_option maxRecDepth 100000 in
theorem hunks_Valid.calls (a0_0 : Int) (a0_1 : Int) (a0_2 : Int) (a0_3 : Int) (a0_4 : ByteArray) (A0_5 : Option Addr) (c0_5 : Nat) (l0_5 : List (S72)) (r : Option Int) (w : World) (hr0_5 : Kd.C k72 w A0_5 l0_5.length l0_5) (hc0_5 : l0_5.length ≤ c0_5) (h : hunks_Valid.f a0_0 a0_1 a0_2 a0_3 a0_4 l0_5 = some r) :
  Calls Try.prog 26 #[.agg #[.int .i64 a0_0, .int .i64 a0_1, .int .i64 a0_2, .int .i64 a0_3, .string a0_4, .slice A0_5 l0_5.length c0_5]] w fun e w' => e = .returned (errW r) ∧ Below w.heap.size w w' := by
 have hu41 := Try.underlying41
 have hu93 := Try.underlying93
 have hu34 := Try.underlying34
 have hu62 := Try.underlying62
 have HR0_5 := Aside0.mk hr0_5
 have HC0_5 := Aside0.mk hc0_5
 clear hr0_5 hc0_5
 have HB := Aside0.mk (Below.refl w.heap.size w)
 have H := h
 clear h
 unfold hunks_Valid.f at H
 replace H := bdS H
 obtain ⟨⟨t245, t246, t247, t248, t249⟩, A2, H⟩ := H
 replace H : (if t249 = true then (if t245 = a0_1 then (if t247 = a0_3 then ((hunks_place.f a0_0 a0_1).bind fun t252 => (if t252 = true then ((hunks_place.f a0_2 a0_3).bind fun t253 => (if t253 = true then (if (a0_4.size : Int) > 4096 then (some (some 100)) else ((strings_Contains.f a0_4 (⟨#[10]⟩ : ByteArray)).bind fun t254 => (if t254 = true then (some (some 100)) else (some none)))) else (some (some 100)))) else (some (some 100)))) else (some (some 100))) else (some (some 100))) else (some (some 100))) = some r := H
 replace H := itBn H
 rcases H with ⟨rfl, H⟩ | ⟨rfl, H⟩
 ·obtain rfl := Option.some.inj H
  go_enter Try.func26, Try.ntmps26
  go_wp2_with (first | ((with_reducible refine gate_dst (N := 1) rfl ?_); (try (refine gate_guard (by rfl) ?_; dsimp only)); refine boxEv (N := 1) #[.int .i64 a0_0, .int .i64 a0_1, .int .i64 a0_2, .int .i64 a0_3, .string a0_4, .slice A0_5 l0_5.length c0_5] 41 ?_; intro gb244 hg w90 hbox hb; have BK244 := Aside0.mk hbox; have GW244 := gwN HB hg; have GE244 := GW244; replace HB := hbD HB hb; clear hb hbox hg; obtain ⟨hcz91_0, hcz91_1, hcz91_2, hcz91_3, hcz91_4, hcz91_5, hfz91_0, hfz91_1, hfz91_2, hfz91_3, hfz91_4, hfz91_5⟩ := bcf6 (W := w90) BK244) | ((with_reducible refine gate_callee (f := 47) rfl ?_); refine goL (some 8) Try.func47 #[.agg #[.int .i64 a0_0, .int .i64 a0_1, .int .i64 a0_2, .int .i64 a0_3, .string a0_4, .slice A0_5 l0_5.length c0_5]] ?_; (with_reducible refine (hunks_sides.calls a0_0 a0_1 a0_2 a0_3 a0_4 _ _ l0_5 t245 t246 t247 t248 false _ ?side1 ?side2 A2.out).mono ?_); (case side1 => exact kcU HR0_5 HB); (case side2 => exact HC0_5.out); rintro e w92 ⟨rfl, hb⟩; refine ⟨_, rfl, ?_⟩; replace BK244 := bkD BK244 hb; replace HB := hbD HB hb; clear hb) | ((with_reducible refine gate_dst (N := 3) rfl ?_); (try (refine gate_guard (by rfl) ?_; dsimp only)); refine boxEv (N := 3) #[.int .i64 0, .bool false] 93 ?_; intro gb250 hg w93 hbox hb; have BK250 := Aside0.mk hbox; have GW250 := gwN HB hg; have GE250 := GW250; replace HB := hbD HB hb; have NB244_250 := nbL BK244 hg; have NB250_244 := nbR BK244 hg; replace BK244 := bkD BK244 hb; clear hb hbox hg) | ((with_reducible refine gate_dst (N := 4) rfl ?_); (try (refine gate_guard (by rfl) ?_; dsimp only)); refine boxEv (N := 4) #[.int .i64 0, .bool false] 93 ?_; intro gb251 hg w94 hbox hb; have BK251 := Aside0.mk hbox; have GW251 := gwN HB hg; have GE251 := GW251; replace HB := hbD HB hb; have NB244_251 := nbL BK244 hg; have NB251_244 := nbR BK244 hg; replace BK244 := bkD BK244 hb; have NB250_251 := nbL BK250 hg; have NB251_250 := nbR BK250 hg; replace BK250 := bkD BK250 hb; clear hb hbox hg; have hnb95 := NB250_244.out; have hnc95 := NB244_250.out; have hnb96 := NB250_251.out; have hnc96 := NB251_250.out; obtain ⟨hcz97_0, hcz97_1, hfz97_0, hfz97_1⟩ := bcf2 (W := w94) BK250; have hnb98 := NB251_244.out; have hnc98 := NB244_251.out; obtain ⟨hcz99_0, hcz99_1, hfz99_0, hfz99_1⟩ := bcf2 (W := w94) BK251))
  go_ret
  exact ⟨eqEnd, belPut⟩
 replace H := itEn H
 rcases H with ⟨c4, c4b0, c4b1, H⟩ | ⟨-, c4b0, c4b1, H⟩
 ·obtain rfl := Option.some.inj H
  go_enter Try.func26, Try.ntmps26
  go_wp2_with (first | ((with_reducible refine gate_dst (N := 1) rfl ?_); (try (refine gate_guard (by rfl) ?_; dsimp only)); refine boxEv (N := 1) #[.int .i64 a0_0, .int .i64 a0_1, .int .i64 a0_2, .int .i64 a0_3, .string a0_4, .slice A0_5 l0_5.length c0_5] 41 ?_; intro gb244 hg w79 hbox hb; have BK244 := Aside0.mk hbox; have GW244 := gwN HB hg; have GE244 := GW244; replace HB := hbD HB hb; clear hb hbox hg; obtain ⟨hcz80_0, hcz80_1, hcz80_2, hcz80_3, hcz80_4, hcz80_5, hfz80_0, hfz80_1, hfz80_2, hfz80_3, hfz80_4, hfz80_5⟩ := bcf6 (W := w79) BK244) | ((with_reducible refine gate_callee (f := 47) rfl ?_); refine goL (some 8) Try.func47 #[.agg #[.int .i64 a0_0, .int .i64 a0_1, .int .i64 a0_2, .int .i64 a0_3, .string a0_4, .slice A0_5 l0_5.length c0_5]] ?_; (with_reducible refine (hunks_sides.calls a0_0 a0_1 a0_2 a0_3 a0_4 _ _ l0_5 t245 t246 t247 t248 true _ ?side1 ?side2 A2.out).mono ?_); (case side1 => exact kcU HR0_5 HB); (case side2 => exact HC0_5.out); rintro e w81 ⟨rfl, hb⟩; refine ⟨_, rfl, ?_⟩; replace BK244 := bkD BK244 hb; replace HB := hbD HB hb; clear hb) | ((with_reducible refine gate_dst (N := 3) rfl ?_); (try (refine gate_guard (by rfl) ?_; dsimp only)); refine boxEv (N := 3) #[.int .i64 0, .bool false] 93 ?_; intro gb250 hg w82 hbox hb; have BK250 := Aside0.mk hbox; have GW250 := gwN HB hg; have GE250 := GW250; replace HB := hbD HB hb; have NB244_250 := nbL BK244 hg; have NB250_244 := nbR BK244 hg; replace BK244 := bkD BK244 hb; clear hb hbox hg) | ((with_reducible refine gate_dst (N := 4) rfl ?_); (try (refine gate_guard (by rfl) ?_; dsimp only)); refine boxEv (N := 4) #[.int .i64 0, .bool false] 93 ?_; intro gb251 hg w83 hbox hb; have BK251 := Aside0.mk hbox; have GW251 := gwN HB hg; have GE251 := GW251; replace HB := hbD HB hb; have NB244_251 := nbL BK244 hg; have NB251_244 := nbR BK244 hg; replace BK244 := bkD BK244 hb; have NB250_251 := nbL BK250 hg; have NB251_250 := nbR BK250 hg; replace BK250 := bkD BK250 hb; clear hb hbox hg; have hnb84 := NB250_244.out; have hnc84 := NB244_250.out; have hnb85 := NB250_251.out; have hnc85 := NB251_250.out; obtain ⟨hcz86_0, hcz86_1, hfz86_0, hfz86_1⟩ := bcf2 (W := w83) BK250; have hnb87 := NB251_244.out; have hnc87 := NB244_251.out; obtain ⟨hcz88_0, hcz88_1, hfz88_0, hfz88_1⟩ := bcf2 (W := w83) BK251; obtain ⟨hcz89_0, hcz89_1, hcz89_2, hcz89_3, hcz89_4, hcz89_5, hfz89_0, hfz89_1, hfz89_2, hfz89_3, hfz89_4, hfz89_5⟩ := bcf6 (W := w83) BK244))
  go_ret
  exact ⟨eqEnd, belPut⟩
 replace H := itEn H
 rcases H with ⟨c5, c5b0, c5b1, H⟩ | ⟨-, c5b0, c5b1, H⟩
 ·obtain rfl := Option.some.inj H
  go_enter Try.func26, Try.ntmps26
  go_wp2_with (first | ((with_reducible refine gate_dst (N := 1) rfl ?_); (try (refine gate_guard (by rfl) ?_; dsimp only)); refine boxEv (N := 1) #[.int .i64 a0_0, .int .i64 a0_1, .int .i64 a0_2, .int .i64 a0_3, .string a0_4, .slice A0_5 l0_5.length c0_5] 41 ?_; intro gb244 hg w68 hbox hb; have BK244 := Aside0.mk hbox; have GW244 := gwN HB hg; have GE244 := GW244; replace HB := hbD HB hb; clear hb hbox hg; obtain ⟨hcz69_0, hcz69_1, hcz69_2, hcz69_3, hcz69_4, hcz69_5, hfz69_0, hfz69_1, hfz69_2, hfz69_3, hfz69_4, hfz69_5⟩ := bcf6 (W := w68) BK244) | ((with_reducible refine gate_callee (f := 47) rfl ?_); refine goL (some 8) Try.func47 #[.agg #[.int .i64 a0_0, .int .i64 a0_1, .int .i64 a0_2, .int .i64 a0_3, .string a0_4, .slice A0_5 l0_5.length c0_5]] ?_; (with_reducible refine (hunks_sides.calls a0_0 a0_1 a0_2 a0_3 a0_4 _ _ l0_5 t245 t246 t247 t248 true _ ?side1 ?side2 A2.out).mono ?_); (case side1 => exact kcU HR0_5 HB); (case side2 => exact HC0_5.out); rintro e w70 ⟨rfl, hb⟩; refine ⟨_, rfl, ?_⟩; replace BK244 := bkD BK244 hb; replace HB := hbD HB hb; clear hb) | ((with_reducible refine gate_dst (N := 3) rfl ?_); (try (refine gate_guard (by rfl) ?_; dsimp only)); refine boxEv (N := 3) #[.int .i64 0, .bool false] 93 ?_; intro gb250 hg w71 hbox hb; have BK250 := Aside0.mk hbox; have GW250 := gwN HB hg; have GE250 := GW250; replace HB := hbD HB hb; have NB244_250 := nbL BK244 hg; have NB250_244 := nbR BK244 hg; replace BK244 := bkD BK244 hb; clear hb hbox hg) | ((with_reducible refine gate_dst (N := 4) rfl ?_); (try (refine gate_guard (by rfl) ?_; dsimp only)); refine boxEv (N := 4) #[.int .i64 0, .bool false] 93 ?_; intro gb251 hg w72 hbox hb; have BK251 := Aside0.mk hbox; have GW251 := gwN HB hg; have GE251 := GW251; replace HB := hbD HB hb; have NB244_251 := nbL BK244 hg; have NB251_244 := nbR BK244 hg; replace BK244 := bkD BK244 hb; have NB250_251 := nbL BK250 hg; have NB251_250 := nbR BK250 hg; replace BK250 := bkD BK250 hb; clear hb hbox hg; have hnb73 := NB250_244.out; have hnc73 := NB244_250.out; have hnb74 := NB250_251.out; have hnc74 := NB251_250.out; obtain ⟨hcz75_0, hcz75_1, hfz75_0, hfz75_1⟩ := bcf2 (W := w72) BK250; have hnb76 := NB251_244.out; have hnc76 := NB244_251.out; obtain ⟨hcz77_0, hcz77_1, hfz77_0, hfz77_1⟩ := bcf2 (W := w72) BK251; obtain ⟨hcz78_0, hcz78_1, hcz78_2, hcz78_3, hcz78_4, hcz78_5, hfz78_0, hfz78_1, hfz78_2, hfz78_3, hfz78_4, hfz78_5⟩ := bcf6 (W := w72) BK244))
  go_ret
  exact ⟨eqEnd, belPut⟩
 replace H := bdS H
 obtain ⟨t252, A6, H⟩ := H
 replace H := itBn H
 rcases H with ⟨rfl, H⟩ | ⟨rfl, H⟩
 ·obtain rfl := Option.some.inj H
  go_enter Try.func26, Try.ntmps26
  go_wp2_with (first | ((with_reducible refine gate_dst (N := 1) rfl ?_); (try (refine gate_guard (by rfl) ?_; dsimp only)); refine boxEv (N := 1) #[.int .i64 a0_0, .int .i64 a0_1, .int .i64 a0_2, .int .i64 a0_3, .string a0_4, .slice A0_5 l0_5.length c0_5] 41 ?_; intro gb244 hg w57 hbox hb; have BK244 := Aside0.mk hbox; have GW244 := gwN HB hg; have GE244 := GW244; replace HB := hbD HB hb; clear hb hbox hg; obtain ⟨hcz58_0, hcz58_1, hcz58_2, hcz58_3, hcz58_4, hcz58_5, hfz58_0, hfz58_1, hfz58_2, hfz58_3, hfz58_4, hfz58_5⟩ := bcf6 (W := w57) BK244) | ((with_reducible refine gate_callee (f := 47) rfl ?_); refine goL (some 8) Try.func47 #[.agg #[.int .i64 a0_0, .int .i64 a0_1, .int .i64 a0_2, .int .i64 a0_3, .string a0_4, .slice A0_5 l0_5.length c0_5]] ?_; (with_reducible refine (hunks_sides.calls a0_0 a0_1 a0_2 a0_3 a0_4 _ _ l0_5 t245 t246 t247 t248 true _ ?side1 ?side2 A2.out).mono ?_); (case side1 => exact kcU HR0_5 HB); (case side2 => exact HC0_5.out); rintro e w59 ⟨rfl, hb⟩; refine ⟨_, rfl, ?_⟩; replace BK244 := bkD BK244 hb; replace HB := hbD HB hb; clear hb) | ((with_reducible refine gate_dst (N := 3) rfl ?_); (try (refine gate_guard (by rfl) ?_; dsimp only)); refine boxEv (N := 3) #[.int .i64 0, .bool false] 93 ?_; intro gb250 hg w60 hbox hb; have BK250 := Aside0.mk hbox; have GW250 := gwN HB hg; have GE250 := GW250; replace HB := hbD HB hb; have NB244_250 := nbL BK244 hg; have NB250_244 := nbR BK244 hg; replace BK244 := bkD BK244 hb; clear hb hbox hg) | ((with_reducible refine gate_dst (N := 4) rfl ?_); (try (refine gate_guard (by rfl) ?_; dsimp only)); refine boxEv (N := 4) #[.int .i64 0, .bool false] 93 ?_; intro gb251 hg w61 hbox hb; have BK251 := Aside0.mk hbox; have GW251 := gwN HB hg; have GE251 := GW251; replace HB := hbD HB hb; have NB244_251 := nbL BK244 hg; have NB251_244 := nbR BK244 hg; replace BK244 := bkD BK244 hb; have NB250_251 := nbL BK250 hg; have NB251_250 := nbR BK250 hg; replace BK250 := bkD BK250 hb; clear hb hbox hg; have hnb62 := NB250_244.out; have hnc62 := NB244_250.out; have hnb63 := NB250_251.out; have hnc63 := NB251_250.out; obtain ⟨hcz64_0, hcz64_1, hfz64_0, hfz64_1⟩ := bcf2 (W := w61) BK250; have hnb65 := NB251_244.out; have hnc65 := NB244_251.out; obtain ⟨hcz66_0, hcz66_1, hfz66_0, hfz66_1⟩ := bcf2 (W := w61) BK251; obtain ⟨hcz67_0, hcz67_1, hcz67_2, hcz67_3, hcz67_4, hcz67_5, hfz67_0, hfz67_1, hfz67_2, hfz67_3, hfz67_4, hfz67_5⟩ := bcf6 (W := w61) BK244) | (go_at_call 48; (with_reducible refine (hunks_place.calls a0_0 a0_1 false _ A6.out).mono ?_); rintro e w' ⟨rfl, ⟨nd, rfl⟩⟩))
  go_ret
  exact ⟨eqEnd, belPut⟩
 replace H := bdS H
 obtain ⟨t253, A8, H⟩ := H
 replace H := itBn H
 rcases H with ⟨rfl, H⟩ | ⟨rfl, H⟩
 ·obtain rfl := Option.some.inj H
  go_enter Try.func26, Try.ntmps26
  go_wp2_with (first | ((with_reducible refine gate_dst (N := 1) rfl ?_); (try (refine gate_guard (by rfl) ?_; dsimp only)); refine boxEv (N := 1) #[.int .i64 a0_0, .int .i64 a0_1, .int .i64 a0_2, .int .i64 a0_3, .string a0_4, .slice A0_5 l0_5.length c0_5] 41 ?_; intro gb244 hg w46 hbox hb; have BK244 := Aside0.mk hbox; have GW244 := gwN HB hg; have GE244 := GW244; replace HB := hbD HB hb; clear hb hbox hg; obtain ⟨hcz47_0, hcz47_1, hcz47_2, hcz47_3, hcz47_4, hcz47_5, hfz47_0, hfz47_1, hfz47_2, hfz47_3, hfz47_4, hfz47_5⟩ := bcf6 (W := w46) BK244) | ((with_reducible refine gate_callee (f := 47) rfl ?_); refine goL (some 8) Try.func47 #[.agg #[.int .i64 a0_0, .int .i64 a0_1, .int .i64 a0_2, .int .i64 a0_3, .string a0_4, .slice A0_5 l0_5.length c0_5]] ?_; (with_reducible refine (hunks_sides.calls a0_0 a0_1 a0_2 a0_3 a0_4 _ _ l0_5 t245 t246 t247 t248 true _ ?side1 ?side2 A2.out).mono ?_); (case side1 => exact kcU HR0_5 HB); (case side2 => exact HC0_5.out); rintro e w48 ⟨rfl, hb⟩; refine ⟨_, rfl, ?_⟩; replace BK244 := bkD BK244 hb; replace HB := hbD HB hb; clear hb) | ((with_reducible refine gate_dst (N := 3) rfl ?_); (try (refine gate_guard (by rfl) ?_; dsimp only)); refine boxEv (N := 3) #[.int .i64 0, .bool false] 93 ?_; intro gb250 hg w49 hbox hb; have BK250 := Aside0.mk hbox; have GW250 := gwN HB hg; have GE250 := GW250; replace HB := hbD HB hb; have NB244_250 := nbL BK244 hg; have NB250_244 := nbR BK244 hg; replace BK244 := bkD BK244 hb; clear hb hbox hg) | ((with_reducible refine gate_dst (N := 4) rfl ?_); (try (refine gate_guard (by rfl) ?_; dsimp only)); refine boxEv (N := 4) #[.int .i64 0, .bool false] 93 ?_; intro gb251 hg w50 hbox hb; have BK251 := Aside0.mk hbox; have GW251 := gwN HB hg; have GE251 := GW251; replace HB := hbD HB hb; have NB244_251 := nbL BK244 hg; have NB251_244 := nbR BK244 hg; replace BK244 := bkD BK244 hb; have NB250_251 := nbL BK250 hg; have NB251_250 := nbR BK250 hg; replace BK250 := bkD BK250 hb; clear hb hbox hg; have hnb51 := NB250_244.out; have hnc51 := NB244_250.out; have hnb52 := NB250_251.out; have hnc52 := NB251_250.out; obtain ⟨hcz53_0, hcz53_1, hfz53_0, hfz53_1⟩ := bcf2 (W := w50) BK250; have hnb54 := NB251_244.out; have hnc54 := NB244_251.out; obtain ⟨hcz55_0, hcz55_1, hfz55_0, hfz55_1⟩ := bcf2 (W := w50) BK251; obtain ⟨hcz56_0, hcz56_1, hcz56_2, hcz56_3, hcz56_4, hcz56_5, hfz56_0, hfz56_1, hfz56_2, hfz56_3, hfz56_4, hfz56_5⟩ := bcf6 (W := w50) BK244) | (go_at_call 48; (with_reducible refine (hunks_place.calls a0_0 a0_1 true _ A6.out).mono ?_); rintro e w' ⟨rfl, ⟨nd, rfl⟩⟩) | (go_at_call 48; (with_reducible refine (hunks_place.calls a0_2 a0_3 false _ A8.out).mono ?_); rintro e w' ⟨rfl, ⟨nd, rfl⟩⟩))
  go_ret
  exact ⟨eqEnd, belPut⟩
 replace H := itG H
 rcases H with ⟨c10, c10b0, H⟩ | ⟨c10, c10b0, H⟩
 ·have c10b1 : decide (4096 < a0_4.size) = true := decide_eq_true (by omega)
  clear c10
  obtain rfl := Option.some.inj H
  go_enter Try.func26, Try.ntmps26
  go_wp2_with (first | ((with_reducible refine gate_dst (N := 1) rfl ?_); (try (refine gate_guard (by rfl) ?_; dsimp only)); refine boxEv (N := 1) #[.int .i64 a0_0, .int .i64 a0_1, .int .i64 a0_2, .int .i64 a0_3, .string a0_4, .slice A0_5 l0_5.length c0_5] 41 ?_; intro gb244 hg w11 hbox hb; have BK244 := Aside0.mk hbox; have GW244 := gwN HB hg; have GE244 := GW244; replace HB := hbD HB hb; clear hb hbox hg; obtain ⟨hcz12_0, hcz12_1, hcz12_2, hcz12_3, hcz12_4, hcz12_5, hfz12_0, hfz12_1, hfz12_2, hfz12_3, hfz12_4, hfz12_5⟩ := bcf6 (W := w11) BK244) | ((with_reducible refine gate_callee (f := 47) rfl ?_); refine goL (some 8) Try.func47 #[.agg #[.int .i64 a0_0, .int .i64 a0_1, .int .i64 a0_2, .int .i64 a0_3, .string a0_4, .slice A0_5 l0_5.length c0_5]] ?_; (with_reducible refine (hunks_sides.calls a0_0 a0_1 a0_2 a0_3 a0_4 _ _ l0_5 t245 t246 t247 t248 true _ ?side1 ?side2 A2.out).mono ?_); (case side1 => exact kcU HR0_5 HB); (case side2 => exact HC0_5.out); rintro e w13 ⟨rfl, hb⟩; refine ⟨_, rfl, ?_⟩; replace BK244 := bkD BK244 hb; replace HB := hbD HB hb; clear hb) | ((with_reducible refine gate_dst (N := 3) rfl ?_); (try (refine gate_guard (by rfl) ?_; dsimp only)); refine boxEv (N := 3) #[.int .i64 0, .bool false] 93 ?_; intro gb250 hg w14 hbox hb; have BK250 := Aside0.mk hbox; have GW250 := gwN HB hg; have GE250 := GW250; replace HB := hbD HB hb; have NB244_250 := nbL BK244 hg; have NB250_244 := nbR BK244 hg; replace BK244 := bkD BK244 hb; clear hb hbox hg) | ((with_reducible refine gate_dst (N := 4) rfl ?_); (try (refine gate_guard (by rfl) ?_; dsimp only)); refine boxEv (N := 4) #[.int .i64 0, .bool false] 93 ?_; intro gb251 hg w15 hbox hb; have BK251 := Aside0.mk hbox; have GW251 := gwN HB hg; have GE251 := GW251; replace HB := hbD HB hb; have NB244_251 := nbL BK244 hg; have NB251_244 := nbR BK244 hg; replace BK244 := bkD BK244 hb; have NB250_251 := nbL BK250 hg; have NB251_250 := nbR BK250 hg; replace BK250 := bkD BK250 hb; clear hb hbox hg; have hnb16 := NB250_244.out; have hnc16 := NB244_250.out; have hnb17 := NB250_251.out; have hnc17 := NB251_250.out; obtain ⟨hcz18_0, hcz18_1, hfz18_0, hfz18_1⟩ := bcf2 (W := w15) BK250; have hnb19 := NB251_244.out; have hnc19 := NB244_251.out; obtain ⟨hcz20_0, hcz20_1, hfz20_0, hfz20_1⟩ := bcf2 (W := w15) BK251; obtain ⟨hcz21_0, hcz21_1, hcz21_2, hcz21_3, hcz21_4, hcz21_5, hfz21_0, hfz21_1, hfz21_2, hfz21_3, hfz21_4, hfz21_5⟩ := bcf6 (W := w15) BK244) | (go_at_call 48; (with_reducible refine (hunks_place.calls a0_0 a0_1 true _ A6.out).mono ?_); rintro e w' ⟨rfl, ⟨nd, rfl⟩⟩) | (go_at_call 48; (with_reducible refine (hunks_place.calls a0_2 a0_3 true _ A8.out).mono ?_); rintro e w' ⟨rfl, ⟨nd, rfl⟩⟩))
  go_ret
  exact ⟨eqEnd, belPut⟩
 have c10b1 : decide (4096 < a0_4.size) = false := decide_eq_false (by omega)
 clear c10
 replace H := bdS H
 obtain ⟨t254, A22, H⟩ := H
 replace H := itB H
 rcases H with ⟨rfl, H⟩ | ⟨rfl, H⟩
 ·obtain rfl := Option.some.inj H
  go_enter Try.func26, Try.ntmps26
  go_wp2_with (first | ((with_reducible refine gate_dst (N := 1) rfl ?_); (try (refine gate_guard (by rfl) ?_; dsimp only)); refine boxEv (N := 1) #[.int .i64 a0_0, .int .i64 a0_1, .int .i64 a0_2, .int .i64 a0_3, .string a0_4, .slice A0_5 l0_5.length c0_5] 41 ?_; intro gb244 hg w24 hbox hb; have BK244 := Aside0.mk hbox; have GW244 := gwN HB hg; have GE244 := GW244; replace HB := hbD HB hb; clear hb hbox hg; obtain ⟨hcz25_0, hcz25_1, hcz25_2, hcz25_3, hcz25_4, hcz25_5, hfz25_0, hfz25_1, hfz25_2, hfz25_3, hfz25_4, hfz25_5⟩ := bcf6 (W := w24) BK244) | ((with_reducible refine gate_callee (f := 47) rfl ?_); refine goL (some 8) Try.func47 #[.agg #[.int .i64 a0_0, .int .i64 a0_1, .int .i64 a0_2, .int .i64 a0_3, .string a0_4, .slice A0_5 l0_5.length c0_5]] ?_; (with_reducible refine (hunks_sides.calls a0_0 a0_1 a0_2 a0_3 a0_4 _ _ l0_5 t245 t246 t247 t248 true _ ?side1 ?side2 A2.out).mono ?_); (case side1 => exact kcU HR0_5 HB); (case side2 => exact HC0_5.out); rintro e w26 ⟨rfl, hb⟩; refine ⟨_, rfl, ?_⟩; replace BK244 := bkD BK244 hb; replace HB := hbD HB hb; clear hb) | ((with_reducible refine gate_dst (N := 3) rfl ?_); (try (refine gate_guard (by rfl) ?_; dsimp only)); refine boxEv (N := 3) #[.int .i64 0, .bool false] 93 ?_; intro gb250 hg w27 hbox hb; have BK250 := Aside0.mk hbox; have GW250 := gwN HB hg; have GE250 := GW250; replace HB := hbD HB hb; have NB244_250 := nbL BK244 hg; have NB250_244 := nbR BK244 hg; replace BK244 := bkD BK244 hb; clear hb hbox hg) | ((with_reducible refine gate_dst (N := 4) rfl ?_); (try (refine gate_guard (by rfl) ?_; dsimp only)); refine boxEv (N := 4) #[.int .i64 0, .bool false] 93 ?_; intro gb251 hg w28 hbox hb; have BK251 := Aside0.mk hbox; have GW251 := gwN HB hg; have GE251 := GW251; replace HB := hbD HB hb; have NB244_251 := nbL BK244 hg; have NB251_244 := nbR BK244 hg; replace BK244 := bkD BK244 hb; have NB250_251 := nbL BK250 hg; have NB251_250 := nbR BK250 hg; replace BK250 := bkD BK250 hb; clear hb hbox hg; have hnb29 := NB250_244.out; have hnc29 := NB244_250.out; have hnb30 := NB250_251.out; have hnc30 := NB251_250.out; obtain ⟨hcz31_0, hcz31_1, hfz31_0, hfz31_1⟩ := bcf2 (W := w28) BK250; have hnb32 := NB251_244.out; have hnc32 := NB244_251.out; obtain ⟨hcz33_0, hcz33_1, hfz33_0, hfz33_1⟩ := bcf2 (W := w28) BK251; obtain ⟨hcz34_0, hcz34_1, hcz34_2, hcz34_3, hcz34_4, hcz34_5, hfz34_0, hfz34_1, hfz34_2, hfz34_3, hfz34_4, hfz34_5⟩ := bcf6 (W := w28) BK244) | (go_at_call 48; (with_reducible refine (hunks_place.calls a0_0 a0_1 true _ A6.out).mono ?_); rintro e w' ⟨rfl, ⟨nd, rfl⟩⟩) | (go_at_call 48; (with_reducible refine (hunks_place.calls a0_2 a0_3 true _ A8.out).mono ?_); rintro e w' ⟨rfl, ⟨nd, rfl⟩⟩) | (go_at_call 49; (with_reducible refine (strings_Contains.calls a0_4 (⟨#[10]⟩ : ByteArray) true _ A22.out).mono ?_); rintro e w' ⟨rfl, ⟨nd, rfl⟩⟩))
  go_ret
  exact ⟨eqEnd, belPut⟩
 obtain rfl := Option.some.inj H
 go_enter Try.func26, Try.ntmps26
 go_wp2_with (first | ((with_reducible refine gate_dst (N := 1) rfl ?_); (try (refine gate_guard (by rfl) ?_; dsimp only)); refine boxEv (N := 1) #[.int .i64 a0_0, .int .i64 a0_1, .int .i64 a0_2, .int .i64 a0_3, .string a0_4, .slice A0_5 l0_5.length c0_5] 41 ?_; intro gb244 hg w35 hbox hb; have BK244 := Aside0.mk hbox; have GW244 := gwN HB hg; have GE244 := GW244; replace HB := hbD HB hb; clear hb hbox hg; obtain ⟨hcz36_0, hcz36_1, hcz36_2, hcz36_3, hcz36_4, hcz36_5, hfz36_0, hfz36_1, hfz36_2, hfz36_3, hfz36_4, hfz36_5⟩ := bcf6 (W := w35) BK244) | ((with_reducible refine gate_callee (f := 47) rfl ?_); refine goL (some 8) Try.func47 #[.agg #[.int .i64 a0_0, .int .i64 a0_1, .int .i64 a0_2, .int .i64 a0_3, .string a0_4, .slice A0_5 l0_5.length c0_5]] ?_; (with_reducible refine (hunks_sides.calls a0_0 a0_1 a0_2 a0_3 a0_4 _ _ l0_5 t245 t246 t247 t248 true _ ?side1 ?side2 A2.out).mono ?_); (case side1 => exact kcU HR0_5 HB); (case side2 => exact HC0_5.out); rintro e w37 ⟨rfl, hb⟩; refine ⟨_, rfl, ?_⟩; replace BK244 := bkD BK244 hb; replace HB := hbD HB hb; clear hb) | ((with_reducible refine gate_dst (N := 3) rfl ?_); (try (refine gate_guard (by rfl) ?_; dsimp only)); refine boxEv (N := 3) #[.int .i64 0, .bool false] 93 ?_; intro gb250 hg w38 hbox hb; have BK250 := Aside0.mk hbox; have GW250 := gwN HB hg; have GE250 := GW250; replace HB := hbD HB hb; have NB244_250 := nbL BK244 hg; have NB250_244 := nbR BK244 hg; replace BK244 := bkD BK244 hb; clear hb hbox hg) | ((with_reducible refine gate_dst (N := 4) rfl ?_); (try (refine gate_guard (by rfl) ?_; dsimp only)); refine boxEv (N := 4) #[.int .i64 0, .bool false] 93 ?_; intro gb251 hg w39 hbox hb; have BK251 := Aside0.mk hbox; have GW251 := gwN HB hg; have GE251 := GW251; replace HB := hbD HB hb; have NB244_251 := nbL BK244 hg; have NB251_244 := nbR BK244 hg; replace BK244 := bkD BK244 hb; have NB250_251 := nbL BK250 hg; have NB251_250 := nbR BK250 hg; replace BK250 := bkD BK250 hb; clear hb hbox hg; have hnb40 := NB250_244.out; have hnc40 := NB244_250.out; have hnb41 := NB250_251.out; have hnc41 := NB251_250.out; obtain ⟨hcz42_0, hcz42_1, hfz42_0, hfz42_1⟩ := bcf2 (W := w39) BK250; have hnb43 := NB251_244.out; have hnc43 := NB244_251.out; obtain ⟨hcz44_0, hcz44_1, hfz44_0, hfz44_1⟩ := bcf2 (W := w39) BK251; obtain ⟨hcz45_0, hcz45_1, hcz45_2, hcz45_3, hcz45_4, hcz45_5, hfz45_0, hfz45_1, hfz45_2, hfz45_3, hfz45_4, hfz45_5⟩ := bcf6 (W := w39) BK244) | (go_at_call 48; (with_reducible refine (hunks_place.calls a0_0 a0_1 true _ A6.out).mono ?_); rintro e w' ⟨rfl, ⟨nd, rfl⟩⟩) | (go_at_call 48; (with_reducible refine (hunks_place.calls a0_2 a0_3 true _ A8.out).mono ?_); rintro e w' ⟨rfl, ⟨nd, rfl⟩⟩) | (go_at_call 49; (with_reducible refine (strings_Contains.calls a0_4 (⟨#[10]⟩ : ByteArray) false _ A22.out).mono ?_); rintro e w' ⟨rfl, ⟨nd, rfl⟩⟩))
 go_ret
 exact ⟨eqEnd, belPut⟩
mutual
def hunks_Sides.l0 : Nat → List ByteArray → List ByteArray → List (S72) → Int → Int → Option (List ByteArray × List ByteArray)
 | 0, _, _, _, _, _ => none
 | k + 1, x4, x5, x9, x10, x11 => if x11 < x10 then (if 0 ≤ x11 then (if x11 < (x9.length : Int) then (if ((rd_T72 x9 x11).f0) = 1 then (hunks_Sides.j1 k x4 x5 x9 x10 x11 true ((rd_T72 x9 x11).f0) ((rd_T72 x9 x11).f1)) else (hunks_Sides.j1 k x4 x5 x9 x10 x11 (((rd_T72 x9 x11).f0) == 2) ((rd_T72 x9 x11).f0) ((rd_T72 x9 x11).f1))) else (none)) else (none)) else (some (x4, x5))
def hunks_Sides.j1 : Nat → List ByteArray → List ByteArray → List (S72) → Int → Int → Bool → Int → ByteArray → Option (List ByteArray × List ByteArray)
 | 0, _, _, _, _, _, _, _, _ => none
 | k + 1, x4, x5, x9, x10, x11, x22, x258000, x258001 => if x22 = true then (if x4.length < 8796093022208 then ((some (x4 ++ [x258001] : List ByteArray)).bind fun y258 => (if x258000 = 1 then (if x5.length < 8796093022208 then (hunks_Sides.l0 k y258 (x5 ++ [x258001]) x9 x10 (wrap64 (x11 + 1))) else (none)) else (if x258000 = 3 then (if x5.length < 8796093022208 then (hunks_Sides.l0 k y258 (x5 ++ [x258001]) x9 x10 (wrap64 (x11 + 1))) else (none)) else (hunks_Sides.l0 k y258 x5 x9 x10 (wrap64 (x11 + 1)))))) else (none)) else (if x258000 = 1 then (if x5.length < 8796093022208 then (hunks_Sides.l0 k x4 (x5 ++ [x258001]) x9 x10 (wrap64 (x11 + 1))) else (none)) else (if x258000 = 3 then (if x5.length < 8796093022208 then (hunks_Sides.l0 k x4 (x5 ++ [x258001]) x9 x10 (wrap64 (x11 + 1))) else (none)) else (hunks_Sides.l0 k x4 x5 x9 x10 (wrap64 (x11 + 1)))))
end
def hunks_Sides.f (k : Nat) (a0_0 : Int) (a0_1 : Int) (a0_2 : Int) (a0_3 : Int) (a0_4 : ByteArray) (l0_5 : List (S72)) : Option (List ByteArray × List ByteArray) := hunks_Sides.l0 k ([] : List ByteArray) ([] : List ByteArray) l0_5 (l0_5.length : Int) 0
theorem hunks_Sides.mono_l : ∀ k, (∀ y0 y1 y2 y3 y4, LeO (hunks_Sides.l0 k y0 y1 y2 y3 y4) (hunks_Sides.l0 (k + 1) y0 y1 y2 y3 y4)) ∧ (∀ y0 y1 y2 y3 y4 y5 y6 y7, LeO (hunks_Sides.j1 k y0 y1 y2 y3 y4 y5 y6 y7) (hunks_Sides.j1 (k + 1) y0 y1 y2 y3 y4 y5 y6 y7))
 | 0 => ⟨fun _ _ _ _ _ r h => by simp [hunks_Sides.l0] at h, fun _ _ _ _ _ _ _ _ r h => by simp [hunks_Sides.j1] at h⟩
 | k + 1 => by
  obtain ⟨ih0, ih1⟩ := hunks_Sides.mono_l k
  refine ⟨?_, ?_⟩
  ·intro y0 y1 y2 y3 y4
   unfold hunks_Sides.l0
   repeat' first
   | (with_reducible exact ih0 _ _ _ _ _)
   | (with_reducible exact ih1 _ _ _ _ _ _ _ _)
   | (with_reducible exact LeO.refl _)
   | (with_reducible exact LeO.none _)
   | (with_reducible refine LeO.ite ?_ ?_)
   | (with_reducible refine LeO.bind ?_ (fun _ => ?_))
   | exact ih0 _ _ _ _ _
   | exact ih1 _ _ _ _ _ _ _ _
   | exact LeO.none _
   | refine LeO.ite ?_ ?_
   | refine LeO.bind ?_ (fun _ => ?_)
  ·intro y0 y1 y2 y3 y4 y5 y6 y7
   unfold hunks_Sides.j1
   repeat' first
   | (with_reducible exact ih0 _ _ _ _ _)
   | (with_reducible exact ih1 _ _ _ _ _ _ _ _)
   | (with_reducible exact LeO.refl _)
   | (with_reducible exact LeO.none _)
   | (with_reducible refine LeO.ite ?_ ?_)
   | (with_reducible refine LeO.bind ?_ (fun _ => ?_))
   | exact ih0 _ _ _ _ _
   | exact ih1 _ _ _ _ _ _ _ _
   | exact LeO.none _
   | refine LeO.ite ?_ ?_
   | refine LeO.bind ?_ (fun _ => ?_)
theorem hunks_Sides.mono : ∀ a0 a1 a2 a3 a4 a5 k, LeO (hunks_Sides.f k a0 a1 a2 a3 a4 a5) (hunks_Sides.f (k + 1) a0 a1 a2 a3 a4 a5) := by
 intro a0 a1 a2 a3 a4 a5 k
 obtain ⟨ih0, ih1⟩ := hunks_Sides.mono_l k
 unfold hunks_Sides.f
 repeat' first
   | (with_reducible exact ih0 _ _ _ _ _)
   | (with_reducible exact ih1 _ _ _ _ _ _ _ _)
   | (with_reducible exact LeO.refl _)
   | (with_reducible exact LeO.none _)
   | (with_reducible refine LeO.ite ?_ ?_)
   | (with_reducible refine LeO.bind ?_ (fun _ => ?_))
   | exact ih0 _ _ _ _ _
   | exact ih1 _ _ _ _ _ _ _ _
   | exact LeO.none _
   | refine LeO.ite ?_ ?_
   | refine LeO.bind ?_ (fun _ => ?_)
set_option maxHeartbeats 8000000 in
set_option maxRecDepth 100000 in
theorem hunks_Sides.calls (k : Nat) (a0_0 : Int) (a0_1 : Int) (a0_2 : Int) (a0_3 : Int) (a0_4 : ByteArray) (A0_5 : Option Addr) (c0_5 : Nat) (l0_5 : List (S72)) (r1 : List ByteArray) (r2 : List ByteArray) (w : World) (hr0_5 : Kd.C k72 w A0_5 l0_5.length l0_5) (hc0_5 : l0_5.length ≤ c0_5) (h : hunks_Sides.f k a0_0 a0_1 a0_2 a0_3 a0_4 l0_5 = some (r1, r2)) :
  Calls Try.prog 52 #[.agg #[.int .i64 a0_0, .int .i64 a0_1, .int .i64 a0_2, .int .i64 a0_3, .string a0_4, .slice A0_5 l0_5.length c0_5]] w fun e w' => ∃ v0_ v1_ : Value, e = .returned (.tuple #[v0_, v1_]) ∧ Kd.R Kd.string 9 w' w.heap.size (fun k_ => some k_ ≠ (v1_ : Value).ownBlock) v0_ r1 ∧ Kd.R Kd.string 9 w' w.heap.size (fun k_ => some k_ ≠ (v0_ : Value).ownBlock) v1_ r2 ∧ Below w.heap.size w w' := by
 have hu41 := Try.underlying41
 have hu72 := Try.underlying72
 have HR0_5 := Aside0.mk hr0_5
 have HC0_5 := Aside0.mk hc0_5
 clear hr0_5 hc0_5
 have HB := Aside0.mk (Below.refl w.heap.size w)
 have H := h
 clear h
 unfold hunks_Sides.f at H
 have H' := Aside0.mk H
 clear H
 go_enter Try.func52, Try.ntmps52
 go_wp2_with (first | ((with_reducible refine gate_dst (N := 1) rfl ?_); refine boxEv (N := 1) #[.int .i64 a0_0, .int .i64 a0_1, .int .i64 a0_2, .int .i64 a0_3, .string a0_4, .slice A0_5 l0_5.length c0_5] 41 ?_; intro gb255 hg w2 hbox hb; have BK255 := Aside0.mk hbox; have GW255 := gwN HB hg; have GE255 := GW255; replace HB := hbD HB hb; clear hb hbox hg; obtain ⟨hcz3_0, hcz3_1, hcz3_2, hcz3_3, hcz3_4, hcz3_5, hfz3_0, hfz3_1, hfz3_2, hfz3_3, hfz3_4, hfz3_5⟩ := bcf6 (W := w2) BK255))
 go_loopg [4, 5, 11] k (fun kq v4 v5 v11 w' => ∃ (x4_1 : List ByteArray) (x5_1 : List ByteArray) (x11_1 : Int), v11 = .int .i64 x11_1 ∧ Aside0 (hunks_Sides.l0 kq x4_1 x5_1 l0_5 (l0_5.length : Int) x11_1 = some (r1, r2)) ∧ Aside0 (kq ≤ k) ∧ Aside0 (Kd.R Kd.string 9 w' w.heap.size (fun k_ => some k_ ≠ (v5 : Value).ownBlock) v4 x4_1) ∧ Aside0 (Kd.R Kd.string 9 w' w.heap.size (fun k_ => some k_ ≠ (v4 : Value).ownBlock) v5 x5_1) ∧ Aside0 (w'.heap[gb255]? = some (.cells #[.int .i64 a0_0, .int .i64 a0_1, .int .i64 a0_2, .int .i64 a0_3, .string a0_4, (.slice A0_5 l0_5.length c0_5)] 41 (0, 0))) ∧ Aside0 (Below w.heap.size w w'))
 case atStart => exact ⟨(([] : List ByteArray)), (([] : List ByteArray)), (0), eqNow, H', ⟨Nat.le_refl _⟩, ⟨by first | exact Kd.R_nil _ _ _ _ _ | exact Kd.N_nil _ _ _ _ _ | exact Kd.V_nil _ _ _ _ _ | exact Kd.Q_nil _ _ _ _ _ | exact Kd.S_nil _ _ _ _ _⟩, ⟨by first | exact Kd.R_nil _ _ _ _ _ | exact Kd.N_nil _ _ _ _ _ | exact Kd.V_nil _ _ _ _ _ | exact Kd.Q_nil _ _ _ _ _ | exact Kd.S_nil _ _ _ _ _⟩, ⟨bkUp BK255.out⟩, ⟨belPut⟩⟩
 case round =>
  clear H'
  try clear hcz3_0 hcz3_1 hcz3_2 hcz3_3 hcz3_4 hcz3_5 hfz3_0 hfz3_1 hfz3_2 hfz3_3 hfz3_4 hfz3_5
  obtain ⟨x4_1, x5_1, x11_1, rfl, HA, HK1, HO_4, HO_5, BK255, HB⟩ := hrel
  cases gk with
  | zero => exact absurd HA.out (by simp [hunks_Sides.l0])
  | succ k1 =>
   have H := HA.out
   clear HA
   simp only [hunks_Sides.l0] at H
   replace H := itLn H
   rcases H with ⟨-, c4b0, H⟩ | ⟨-, c4b0, H⟩
   ·simp only [Option.some.injEq, Prod.mk.injEq] at H
    obtain ⟨rfl, rfl⟩ := H
    go_wp2
    go_ret2
    exact ⟨_, _, eqEnd, by (with_reducible repeat (first | apply Kd.R_alloc | apply Kd.R_drewN | apply Kd.R_drew)); exact HO_4.out, by (with_reducible repeat (first | apply Kd.R_alloc | apply Kd.R_drewN | apply Kd.R_drew)); exact HO_5.out, belPut⟩
   replace H := itLn H
   rcases H with ⟨_, _, H⟩ | ⟨-, c5b0, H⟩
   ·cases H
   replace H := itLn H
   rcases H with ⟨_, _, H⟩ | ⟨-, c6b0, H⟩
   ·cases H
   have HC7 := Aside0.mk H
   clear H
   obtain ⟨ad256, rfl, hx256_0, hx256_1, p256, q256⟩ := atU_T72 HR0_5 HB x11_1
   go_upto_region 5 with (first | ((with_reducible refine gate_dst (N := 7) rfl ?_); refine boxEv (N := 7) #[.int .i64 0, .string (⟨#[]⟩ : ByteArray)] 72 ?_; intro gb257 hg w8 hbox hb; replace HO_4 := Aside0.mk (Kd.R_below (kdUp HO_4.out) hb); replace HO_5 := Aside0.mk (Kd.R_below (kdUp HO_5.out) hb); have BK257 := Aside0.mk hbox; have GW257 := gwN HB hg; have GE257 := GW257; replace HB := hbD HB hb; have NB255_257 := nbL BK255 hg; have NB257_255 := nbR BK255 hg; replace BK255 := bkD BK255 hb; clear hb hbox hg; have hnb9 := NB257_255.out; have hnc9 := NB255_257.out; obtain ⟨hcz10_0, hcz10_1, hfz10_0, hfz10_1⟩ := bcf2 (W := w8) BK257))
   (try simp only [Act.put, List.setIfInBounds_toArray, List.set_cons_zero, List.set_cons_succ])
   go_cut [22] (fun v22 wc => ∃ (kq : Nat) (x22_6 : Bool), v22 = .bool x22_6 ∧ Aside0 (hunks_Sides.j1 kq x4_1 x5_1 l0_5 (l0_5.length : Int) x11_1 x22_6 ((rd_T72 l0_5 x11_1).f0) ((rd_T72 l0_5 x11_1).f1) = some (r1, r2)) ∧ Aside0 (kq ≤ k1) ∧ Aside0 (Kd.R Kd.string 9 wc w.heap.size (fun k_ => some k_ ≠ (u5 : Value).ownBlock) u4 x4_1) ∧ Aside0 (Kd.R Kd.string 9 wc w.heap.size (fun k_ => some k_ ≠ (u4 : Value).ownBlock) u5 x5_1) ∧ Aside0 (wc.heap[gb255]? = some (.cells #[.int .i64 a0_0, .int .i64 a0_1, .int .i64 a0_2, .int .i64 a0_3, .string a0_4, (.slice (some ad256) l0_5.length c0_5)] 41 (0, 0))) ∧ Aside0 (wc.heap[gb257]? = some (.cells #[.int .i64 ((rd_T72 l0_5 x11_1).f0), .string ((rd_T72 l0_5 x11_1).f1)] 72 (0, 0))) ∧ Aside0 (Below w.heap.size w wc))
   case first =>
    have H := HC7.out
    clear HC7
    replace H := itE H
    rcases H with ⟨-, c11b0, c11b1, H⟩ | ⟨c11, c11b0, c11b1, H⟩
    ·(first | rw [c11b0] | (simp only [i64_w, i32_w]; rw [c11b0]) | skip)
     have H' := Aside0.mk H
     clear H
     have hnb12 := NB257_255.out
     have hnc12 := NB255_257.out
     have hcz13_0 := bkc (v := .int .i64 0) BK257.out 0 rfl
     have hcz13_1 := bkc (v := .string (⟨#[]⟩ : ByteArray)) BK257.out 1 rfl
     have hfz13_0 := blk_frozen BK257.out 0
     have hfz13_1 := blk_frozen BK257.out 1
     go_wp2
     go_meet
     case rel => exact ⟨_, (true), eqNow, H', ⟨by have := HK1.out; first | omega | exact Nat.le_refl _⟩, ⟨by (with_reducible repeat (first | apply Kd.R_alloc | apply Kd.R_drewN | apply Kd.R_drew)); exact Kd.R_mono (Kd.R_far (p := ⟨gb257, 1, none⟩) (Kd.R_far (p := ⟨gb257, 0, none⟩) (Kd.R_types HO_4.out BK257.out (by decide)) (fun _ hk => hk.2) (.int .i64 ((rd_T72 l0_5 x11_1).f0))) (fun _ hk => hk.2) (.string ((rd_T72 l0_5 x11_1).f1))) (fun _ hk => hk.1)⟩, ⟨by (with_reducible repeat (first | apply Kd.R_alloc | apply Kd.R_drewN | apply Kd.R_drew)); exact Kd.R_mono (Kd.R_far (p := ⟨gb257, 1, none⟩) (Kd.R_far (p := ⟨gb257, 0, none⟩) (Kd.R_types HO_5.out BK257.out (by decide)) (fun _ hk => hk.2) (.int .i64 ((rd_T72 l0_5 x11_1).f0))) (fun _ hk => hk.2) (.string ((rd_T72 l0_5 x11_1).f1))) (fun _ hk => hk.1)⟩, ⟨bkT BK255⟩, ⟨bkT BK257⟩, ⟨belPut⟩⟩
    (first | rw [c11b0] | (simp only [i64_w, i32_w]; rw [c11b0]) | skip)
    have H' := Aside0.mk H
    clear H
    have hnb14 := NB257_255.out
    have hnc14 := NB255_257.out
    have hcz15_0 := bkc (v := .int .i64 0) BK257.out 0 rfl
    have hcz15_1 := bkc (v := .string (⟨#[]⟩ : ByteArray)) BK257.out 1 rfl
    have hfz15_0 := blk_frozen BK257.out 0
    have hfz15_1 := blk_frozen BK257.out 1
    go_wp2
    go_meet
    case rel => exact ⟨_, ((((rd_T72 l0_5 x11_1).f0) == 2)), eqNow, H', ⟨by have := HK1.out; first | omega | exact Nat.le_refl _⟩, ⟨by (with_reducible repeat (first | apply Kd.R_alloc | apply Kd.R_drewN | apply Kd.R_drew)); exact Kd.R_mono (Kd.R_far (p := ⟨gb257, 1, none⟩) (Kd.R_far (p := ⟨gb257, 0, none⟩) (Kd.R_types HO_4.out BK257.out (by decide)) (fun _ hk => hk.2) (.int .i64 ((rd_T72 l0_5 x11_1).f0))) (fun _ hk => hk.2) (.string ((rd_T72 l0_5 x11_1).f1))) (fun _ hk => hk.1)⟩, ⟨by (with_reducible repeat (first | apply Kd.R_alloc | apply Kd.R_drewN | apply Kd.R_drew)); exact Kd.R_mono (Kd.R_far (p := ⟨gb257, 1, none⟩) (Kd.R_far (p := ⟨gb257, 0, none⟩) (Kd.R_types HO_5.out BK257.out (by decide)) (fun _ hk => hk.2) (.int .i64 ((rd_T72 l0_5 x11_1).f0))) (fun _ hk => hk.2) (.string ((rd_T72 l0_5 x11_1).f1))) (fun _ hk => hk.1)⟩, ⟨bkT BK255⟩, ⟨bkT BK257⟩, ⟨belPut⟩⟩
   case rest =>
    clear HC7
    try clear c4
    try clear c4b0
    try clear c5
    try clear c5b0
    try clear c6
    try clear c6b0
    try clear hcz10_0 hcz10_1
    try clear hcz3_0 hcz3_1 hcz3_2 hcz3_3 hcz3_4 hcz3_5
    try clear hfz10_0 hfz10_1
    try clear hfz3_0 hfz3_1 hfz3_2 hfz3_3 hfz3_4 hfz3_5
    try clear hx256_0
    try clear hx256_1
    try clear p256
    try clear q256
    obtain ⟨kq, x22_6, rfl, HA, HJ6, HO_4, HO_5, BK255, BK257, HB⟩ := hcut
    cases kq with
    | zero => exact absurd HA.out (by simp [hunks_Sides.j1])
    | succ kj6 =>
     have H := HA.out
     clear HA
     simp only [hunks_Sides.j1] at H
     replace H := itBn H
     rcases H with ⟨rfl, H⟩ | ⟨rfl, H⟩
     ·replace H := itE H
      rcases H with ⟨-, c36b0, c36b1, H⟩ | ⟨c36, c36b0, c36b1, H⟩
      ·replace H := itLn H
       rcases H with ⟨_, _, H⟩ | ⟨c37, -, H⟩
       ·cases H
       have LMc37 := Aside0.mk c37
       clear c37
       obtain ⟨y267, hy267⟩ : ∃ y_ : List ByteArray, y_ = (x5_1 ++ [((rd_T72 l0_5 x11_1).f1)]) := ⟨_, rfl⟩
       replace H : (hunks_Sides.l0 kj6 x4_1 y267 l0_5 (l0_5.length : Int) (wrap64 (x11_1 + 1))) = some (r1, r2) := by first | (rw [hy267]; with_reducible exact H) | (have H2_ := (Option.bind_some _ _).symm.trans H; rw [hy267]; with_reducible exact H2_) | (have H2_ := (Option.bind_some _ _).symm.trans H; with_reducible exact H2_) | with_reducible exact H | (rw [hy267]; exact H) | exact H
       have Ny267 := Aside0.mk hy267
       clear hy267
       have H' := Aside0.mk H
       clear H
       have hnb38 := NB257_255.out
       have hnc38 := NB255_257.out
       have hcz39_0 := bkc (v := .int .i64 ((rd_T72 l0_5 x11_1).f0)) BK257.out 0 rfl
       have hcz39_1 := bkc (v := .string ((rd_T72 l0_5 x11_1).f1)) BK257.out 1 rfl
       have hfz39_0 := blk_frozen BK257.out 0
       have hfz39_1 := blk_frozen BK257.out 1
       go_wp2_with (first | ((with_reducible refine gate_builtin (b := .append) (xs := #[.tmp 36, .tmp 39]) rfl ?_); at_builtin; refine Kd.R_append Kd.string (w0 := w) w.heap.size rfl (.tmp 36) (.tmp 39) 23 9 (.string ⟨#[]⟩) 16 rfl Try.underlying23 info9 rfl (by decide) (by omega) u5 x5_1 ((rd_T72 l0_5 x11_1).f1) [.string ((rd_T72 l0_5 x11_1).f1)] (fun k_ => some k_ ≠ (u4 : Value).ownBlock) (fun _ => False) rfl rfl ?aP (fun _ hk => hk.elim) ?aF ?aO ?aB ?aS ?aL ?_; (case aP => exact rfl); (case aB => exact (belPut)); (case aF => exact (fun k_ hk => Kd.fresh' (Kd.R_lt (kdUp HO_4.out)) k_ hk)); (case aO => exact (kdUp HO_5.out)); (case aS => exact (below_size (belPut))); (case aL => have := LMc37.out; omega); intro v268 w40 ho hb hg hat; rw [← Ny267.out] at ho; replace HO_4 := Aside0.mk (Kd.R_after (ok := (fun _ => True)) (by (with_reducible repeat (first | apply Kd.R_alloc | apply Kd.R_drewN | apply Kd.R_drew)); exact Kd.R_mono HO_4.out (fun _ hk => ⟨trivial, hk⟩)) hg hat); replace BK255 := Aside0.mk (blk_grown (g := gb255) (o := .cells #[.int .i64 a0_0, .int .i64 a0_1, .int .i64 a0_2, .int .i64 a0_3, .string a0_4, .slice (some ad256) l0_5.length c0_5] 41 (0, 0)) (bkUp BK255.out) hg (Kd.R_ne HO_5.out BK255.out (by decide))); replace BK257 := Aside0.mk (blk_grown (g := gb257) (o := .cells #[.int .i64 ((rd_T72 l0_5 x11_1).f0), .string ((rd_T72 l0_5 x11_1).f1)] 72 (0, 0)) (bkUp BK257.out) hg (Kd.R_ne HO_5.out BK257.out (by decide))); replace HB := Aside0.mk hb; have HO269 := Aside0.mk (ho); clear HO_5; clear ho hb hg hat))
       go_roundg kj6
       case measure => have := HK1.out; have := HJ6.out; omega
       case rel => exact ⟨(x4_1), (y267), (wrap64 (x11_1 + 1)), eqNow, H', ⟨by have := HK1.out; have := HJ6.out; omega⟩, ⟨by (with_reducible repeat (first | apply Kd.R_alloc | apply Kd.R_drewN | apply Kd.R_drew)); exact Kd.R_mono HO_4.out (fun _ hk => hk.2)⟩, ⟨kdMv HO269⟩, ⟨bkUp BK255.out⟩, ⟨belPut⟩⟩
      replace H := itEn H
      rcases H with ⟨c41, c41b0, c41b1, H⟩ | ⟨-, c41b0, c41b1, H⟩
      ·have H' := Aside0.mk H
       clear H
       have hnb46 := NB257_255.out
       have hnc46 := NB255_257.out
       have hcz47_0 := bkc (v := .int .i64 ((rd_T72 l0_5 x11_1).f0)) BK257.out 0 rfl
       have hcz47_1 := bkc (v := .string ((rd_T72 l0_5 x11_1).f1)) BK257.out 1 rfl
       have hfz47_0 := blk_frozen BK257.out 0
       have hfz47_1 := blk_frozen BK257.out 1
       go_wp2
       go_roundg kj6
       case measure => have := HK1.out; have := HJ6.out; omega
       case rel => exact ⟨(x4_1), (x5_1), (wrap64 (x11_1 + 1)), eqNow, H', ⟨by have := HK1.out; have := HJ6.out; omega⟩, ⟨kdMv HO_4⟩, ⟨kdMv HO_5⟩, ⟨bkUp BK255.out⟩, ⟨belPut⟩⟩
      replace H := itLn H
      rcases H with ⟨_, _, H⟩ | ⟨c42, -, H⟩
      ·cases H
      have LMc42 := Aside0.mk c42
      clear c42
      obtain ⟨y270, hy270⟩ : ∃ y_ : List ByteArray, y_ = (x5_1 ++ [((rd_T72 l0_5 x11_1).f1)]) := ⟨_, rfl⟩
      replace H : (hunks_Sides.l0 kj6 x4_1 y270 l0_5 (l0_5.length : Int) (wrap64 (x11_1 + 1))) = some (r1, r2) := by first | (rw [hy270]; with_reducible exact H) | (have H2_ := (Option.bind_some _ _).symm.trans H; rw [hy270]; with_reducible exact H2_) | (have H2_ := (Option.bind_some _ _).symm.trans H; with_reducible exact H2_) | with_reducible exact H | (rw [hy270]; exact H) | exact H
      have Ny270 := Aside0.mk hy270
      clear hy270
      have H' := Aside0.mk H
      clear H
      have hnb43 := NB257_255.out
      have hnc43 := NB255_257.out
      have hcz44_0 := bkc (v := .int .i64 ((rd_T72 l0_5 x11_1).f0)) BK257.out 0 rfl
      have hcz44_1 := bkc (v := .string ((rd_T72 l0_5 x11_1).f1)) BK257.out 1 rfl
      have hfz44_0 := blk_frozen BK257.out 0
      have hfz44_1 := blk_frozen BK257.out 1
      go_wp2_with (first | ((with_reducible refine gate_builtin (b := .append) (xs := #[.tmp 36, .tmp 39]) rfl ?_); at_builtin; refine Kd.R_append Kd.string (w0 := w) w.heap.size rfl (.tmp 36) (.tmp 39) 23 9 (.string ⟨#[]⟩) 16 rfl Try.underlying23 info9 rfl (by decide) (by omega) u5 x5_1 ((rd_T72 l0_5 x11_1).f1) [.string ((rd_T72 l0_5 x11_1).f1)] (fun k_ => some k_ ≠ (u4 : Value).ownBlock) (fun _ => False) rfl rfl ?aP (fun _ hk => hk.elim) ?aF ?aO ?aB ?aS ?aL ?_; (case aP => exact rfl); (case aB => exact (belPut)); (case aF => exact (fun k_ hk => Kd.fresh' (Kd.R_lt (kdUp HO_4.out)) k_ hk)); (case aO => exact (kdUp HO_5.out)); (case aS => exact (below_size (belPut))); (case aL => have := LMc42.out; omega); intro v271 w45 ho hb hg hat; rw [← Ny270.out] at ho; replace HO_4 := Aside0.mk (Kd.R_after (ok := (fun _ => True)) (by (with_reducible repeat (first | apply Kd.R_alloc | apply Kd.R_drewN | apply Kd.R_drew)); exact Kd.R_mono HO_4.out (fun _ hk => ⟨trivial, hk⟩)) hg hat); replace BK255 := Aside0.mk (blk_grown (g := gb255) (o := .cells #[.int .i64 a0_0, .int .i64 a0_1, .int .i64 a0_2, .int .i64 a0_3, .string a0_4, .slice (some ad256) l0_5.length c0_5] 41 (0, 0)) (bkUp BK255.out) hg (Kd.R_ne HO_5.out BK255.out (by decide))); replace BK257 := Aside0.mk (blk_grown (g := gb257) (o := .cells #[.int .i64 ((rd_T72 l0_5 x11_1).f0), .string ((rd_T72 l0_5 x11_1).f1)] 72 (0, 0)) (bkUp BK257.out) hg (Kd.R_ne HO_5.out BK257.out (by decide))); replace HB := Aside0.mk hb; have HO272 := Aside0.mk (ho); clear HO_5; clear ho hb hg hat))
      go_roundg kj6
      case measure => have := HK1.out; have := HJ6.out; omega
      case rel => exact ⟨(x4_1), (y270), (wrap64 (x11_1 + 1)), eqNow, H', ⟨by have := HK1.out; have := HJ6.out; omega⟩, ⟨by (with_reducible repeat (first | apply Kd.R_alloc | apply Kd.R_drewN | apply Kd.R_drew)); exact Kd.R_mono HO_4.out (fun _ hk => hk.2)⟩, ⟨kdMv HO272⟩, ⟨bkUp BK255.out⟩, ⟨belPut⟩⟩
     replace H := itLn H
     rcases H with ⟨_, _, H⟩ | ⟨c17, -, H⟩
     ·cases H
     have LMc17 := Aside0.mk c17
     clear c17
     obtain ⟨y258, hy258⟩ : ∃ y_ : List ByteArray, y_ = (x4_1 ++ [((rd_T72 l0_5 x11_1).f1)]) := ⟨_, rfl⟩
     replace H : (if ((rd_T72 l0_5 x11_1).f0) = 1 then (if x5_1.length < 8796093022208 then (hunks_Sides.l0 kj6 y258 (x5_1 ++ [((rd_T72 l0_5 x11_1).f1)]) l0_5 (l0_5.length : Int) (wrap64 (x11_1 + 1))) else (none)) else (if ((rd_T72 l0_5 x11_1).f0) = 3 then (if x5_1.length < 8796093022208 then (hunks_Sides.l0 kj6 y258 (x5_1 ++ [((rd_T72 l0_5 x11_1).f1)]) l0_5 (l0_5.length : Int) (wrap64 (x11_1 + 1))) else (none)) else (hunks_Sides.l0 kj6 y258 x5_1 l0_5 (l0_5.length : Int) (wrap64 (x11_1 + 1))))) = some (r1, r2) := by first | (rw [hy258]; with_reducible exact H) | (have H2_ := (Option.bind_some _ _).symm.trans H; rw [hy258]; with_reducible exact H2_) | (have H2_ := (Option.bind_some _ _).symm.trans H; with_reducible exact H2_) | with_reducible exact H | (rw [hy258]; exact H) | exact H
     have Ny258 := Aside0.mk hy258
     clear hy258
     replace H := itE H
     rcases H with ⟨-, c18b0, c18b1, H⟩ | ⟨c18, c18b0, c18b1, H⟩
     ·replace H := itLn H
      rcases H with ⟨_, _, H⟩ | ⟨c19, -, H⟩
      ·cases H
      have LMc19 := Aside0.mk c19
      clear c19
      obtain ⟨y261, hy261⟩ : ∃ y_ : List ByteArray, y_ = (x5_1 ++ [((rd_T72 l0_5 x11_1).f1)]) := ⟨_, rfl⟩
      replace H : (hunks_Sides.l0 kj6 y258 y261 l0_5 (l0_5.length : Int) (wrap64 (x11_1 + 1))) = some (r1, r2) := by first | (rw [hy261]; with_reducible exact H) | (have H2_ := (Option.bind_some _ _).symm.trans H; rw [hy261]; with_reducible exact H2_) | (have H2_ := (Option.bind_some _ _).symm.trans H; with_reducible exact H2_) | with_reducible exact H | (rw [hy261]; exact H) | exact H
      have Ny261 := Aside0.mk hy261
      clear hy261
      have H' := Aside0.mk H
      clear H
      have hnb20 := NB257_255.out
      have hnc20 := NB255_257.out
      have hcz21_0 := bkc (v := .int .i64 ((rd_T72 l0_5 x11_1).f0)) BK257.out 0 rfl
      have hcz21_1 := bkc (v := .string ((rd_T72 l0_5 x11_1).f1)) BK257.out 1 rfl
      have hfz21_0 := blk_frozen BK257.out 0
      have hfz21_1 := blk_frozen BK257.out 1
      go_wp2_with (first | ((with_reducible refine gate_builtin (b := .append) (xs := #[.tmp 23, .tmp 26]) rfl ?_); at_builtin; refine Kd.R_append Kd.string (w0 := w) w.heap.size rfl (.tmp 23) (.tmp 26) 23 9 (.string ⟨#[]⟩) 16 rfl Try.underlying23 info9 rfl (by decide) (by omega) u4 x4_1 ((rd_T72 l0_5 x11_1).f1) [.string ((rd_T72 l0_5 x11_1).f1)] (fun k_ => some k_ ≠ (u5 : Value).ownBlock) (fun _ => False) rfl rfl ?aP (fun _ hk => hk.elim) ?aF ?aO ?aB ?aS ?aL ?_; (case aP => exact rfl); (case aB => exact (belPut)); (case aF => exact (fun k_ hk => Kd.fresh' (Kd.R_lt (kdUp HO_5.out)) k_ hk)); (case aO => exact (kdUp HO_4.out)); (case aS => exact (below_size (belPut))); (case aL => have := LMc17.out; omega); intro v259 w22 ho hb hg hat; rw [← Ny258.out] at ho; replace HO_5 := Aside0.mk (Kd.R_after (ok := (fun _ => True)) (by (with_reducible repeat (first | apply Kd.R_alloc | apply Kd.R_drewN | apply Kd.R_drew)); exact Kd.R_mono HO_5.out (fun _ hk => ⟨trivial, hk⟩)) hg hat); replace BK255 := Aside0.mk (blk_grown (g := gb255) (o := .cells #[.int .i64 a0_0, .int .i64 a0_1, .int .i64 a0_2, .int .i64 a0_3, .string a0_4, .slice (some ad256) l0_5.length c0_5] 41 (0, 0)) (bkUp BK255.out) hg (Kd.R_ne HO_4.out BK255.out (by decide))); replace BK257 := Aside0.mk (blk_grown (g := gb257) (o := .cells #[.int .i64 ((rd_T72 l0_5 x11_1).f0), .string ((rd_T72 l0_5 x11_1).f1)] 72 (0, 0)) (bkUp BK257.out) hg (Kd.R_ne HO_4.out BK257.out (by decide))); replace HB := Aside0.mk hb; have HO260 := Aside0.mk (ho); clear HO_4; clear ho hb hg hat; obtain ⟨hcz23_0, hcz23_1, hfz23_0, hfz23_1⟩ := bcf2 (W := w22) BK257) | ((with_reducible refine gate_builtin (b := .append) (xs := #[.tmp 36, .tmp 39]) rfl ?_); at_builtin; refine Kd.R_append Kd.string (w0 := w) w.heap.size rfl (.tmp 36) (.tmp 39) 23 9 (.string ⟨#[]⟩) 16 rfl Try.underlying23 info9 rfl (by decide) (by omega) u5 x5_1 ((rd_T72 l0_5 x11_1).f1) [.string ((rd_T72 l0_5 x11_1).f1)] (fun k_ => some k_ ≠ (v259 : Value).ownBlock) (fun _ => False) rfl rfl ?aP (fun _ hk => hk.elim) ?aF ?aO ?aB ?aS ?aL ?_; (case aP => exact rfl); (case aB => exact (belPut)); (case aF => exact (fun k_ hk => Kd.fresh' (Kd.R_lt (kdUp HO260.out)) k_ hk)); (case aO => exact (by (with_reducible repeat (first | apply Kd.R_alloc | apply Kd.R_drewN | apply Kd.R_drew)); exact Kd.R_mono HO_5.out (fun _ hk => hk.2))); (case aS => exact (below_size (belPut))); (case aL => have := LMc19.out; omega); intro v262 w24 ho hb hg hat; rw [← Ny261.out] at ho; replace BK255 := Aside0.mk (blk_grown (g := gb255) (o := .cells #[.int .i64 a0_0, .int .i64 a0_1, .int .i64 a0_2, .int .i64 a0_3, .string a0_4, .slice (some ad256) l0_5.length c0_5] 41 (0, 0)) (bkUp BK255.out) hg (Kd.R_ne HO_5.out BK255.out (by decide))); replace BK257 := Aside0.mk (blk_grown (g := gb257) (o := .cells #[.int .i64 ((rd_T72 l0_5 x11_1).f0), .string ((rd_T72 l0_5 x11_1).f1)] 72 (0, 0)) (bkUp BK257.out) hg (Kd.R_ne HO_5.out BK257.out (by decide))); replace HO260 := Aside0.mk (Kd.R_after (ok := (fun _ => True)) (by (with_reducible repeat (first | apply Kd.R_alloc | apply Kd.R_drewN | apply Kd.R_drew)); exact Kd.R_mono HO260.out (fun _ hk => ⟨trivial, hk⟩)) hg hat); replace HB := Aside0.mk hb; have HO263 := Aside0.mk (ho); clear HO_5; clear ho hb hg hat))
      go_roundg kj6
      case measure => have := HK1.out; have := HJ6.out; omega
      case rel => exact ⟨(y258), (y261), (wrap64 (x11_1 + 1)), eqNow, H', ⟨by have := HK1.out; have := HJ6.out; omega⟩, ⟨by (with_reducible repeat (first | apply Kd.R_alloc | apply Kd.R_drewN | apply Kd.R_drew)); exact Kd.R_mono HO260.out (fun _ hk => hk.2)⟩, ⟨kdMv HO263⟩, ⟨bkUp BK255.out⟩, ⟨belPut⟩⟩
     replace H := itEn H
     rcases H with ⟨c25, c25b0, c25b1, H⟩ | ⟨-, c25b0, c25b1, H⟩
     ·have H' := Aside0.mk H
      clear H
      have hnb32 := NB257_255.out
      have hnc32 := NB255_257.out
      have hcz33_0 := bkc (v := .int .i64 ((rd_T72 l0_5 x11_1).f0)) BK257.out 0 rfl
      have hcz33_1 := bkc (v := .string ((rd_T72 l0_5 x11_1).f1)) BK257.out 1 rfl
      have hfz33_0 := blk_frozen BK257.out 0
      have hfz33_1 := blk_frozen BK257.out 1
      go_wp2_with (first | ((with_reducible refine gate_builtin (b := .append) (xs := #[.tmp 23, .tmp 26]) rfl ?_); at_builtin; refine Kd.R_append Kd.string (w0 := w) w.heap.size rfl (.tmp 23) (.tmp 26) 23 9 (.string ⟨#[]⟩) 16 rfl Try.underlying23 info9 rfl (by decide) (by omega) u4 x4_1 ((rd_T72 l0_5 x11_1).f1) [.string ((rd_T72 l0_5 x11_1).f1)] (fun k_ => some k_ ≠ (u5 : Value).ownBlock) (fun _ => False) rfl rfl ?aP (fun _ hk => hk.elim) ?aF ?aO ?aB ?aS ?aL ?_; (case aP => exact rfl); (case aB => exact (belPut)); (case aF => exact (fun k_ hk => Kd.fresh' (Kd.R_lt (kdUp HO_5.out)) k_ hk)); (case aO => exact (kdUp HO_4.out)); (case aS => exact (below_size (belPut))); (case aL => have := LMc17.out; omega); intro v259 w34 ho hb hg hat; rw [← Ny258.out] at ho; replace HO_5 := Aside0.mk (Kd.R_after (ok := (fun _ => True)) (by (with_reducible repeat (first | apply Kd.R_alloc | apply Kd.R_drewN | apply Kd.R_drew)); exact Kd.R_mono HO_5.out (fun _ hk => ⟨trivial, hk⟩)) hg hat); replace BK255 := Aside0.mk (blk_grown (g := gb255) (o := .cells #[.int .i64 a0_0, .int .i64 a0_1, .int .i64 a0_2, .int .i64 a0_3, .string a0_4, .slice (some ad256) l0_5.length c0_5] 41 (0, 0)) (bkUp BK255.out) hg (Kd.R_ne HO_4.out BK255.out (by decide))); replace BK257 := Aside0.mk (blk_grown (g := gb257) (o := .cells #[.int .i64 ((rd_T72 l0_5 x11_1).f0), .string ((rd_T72 l0_5 x11_1).f1)] 72 (0, 0)) (bkUp BK257.out) hg (Kd.R_ne HO_4.out BK257.out (by decide))); replace HB := Aside0.mk hb; have HO260 := Aside0.mk (ho); clear HO_4; clear ho hb hg hat; obtain ⟨hcz35_0, hcz35_1, hfz35_0, hfz35_1⟩ := bcf2 (W := w34) BK257))
      go_roundg kj6
      case measure => have := HK1.out; have := HJ6.out; omega
      case rel => exact ⟨(y258), (x5_1), (wrap64 (x11_1 + 1)), eqNow, H', ⟨by have := HK1.out; have := HJ6.out; omega⟩, ⟨kdMv HO260⟩, ⟨by (with_reducible repeat (first | apply Kd.R_alloc | apply Kd.R_drewN | apply Kd.R_drew)); exact Kd.R_mono HO_5.out (fun _ hk => hk.2)⟩, ⟨bkUp BK255.out⟩, ⟨belPut⟩⟩
     replace H := itLn H
     rcases H with ⟨_, _, H⟩ | ⟨c26, -, H⟩
     ·cases H
     have LMc26 := Aside0.mk c26
     clear c26
     obtain ⟨y264, hy264⟩ : ∃ y_ : List ByteArray, y_ = (x5_1 ++ [((rd_T72 l0_5 x11_1).f1)]) := ⟨_, rfl⟩
     replace H : (hunks_Sides.l0 kj6 y258 y264 l0_5 (l0_5.length : Int) (wrap64 (x11_1 + 1))) = some (r1, r2) := by first | (rw [hy264]; with_reducible exact H) | (have H2_ := (Option.bind_some _ _).symm.trans H; rw [hy264]; with_reducible exact H2_) | (have H2_ := (Option.bind_some _ _).symm.trans H; with_reducible exact H2_) | with_reducible exact H | (rw [hy264]; exact H) | exact H
     have Ny264 := Aside0.mk hy264
     clear hy264
     have H' := Aside0.mk H
     clear H
     have hnb27 := NB257_255.out
     have hnc27 := NB255_257.out
     have hcz28_0 := bkc (v := .int .i64 ((rd_T72 l0_5 x11_1).f0)) BK257.out 0 rfl
     have hcz28_1 := bkc (v := .string ((rd_T72 l0_5 x11_1).f1)) BK257.out 1 rfl
     have hfz28_0 := blk_frozen BK257.out 0
     have hfz28_1 := blk_frozen BK257.out 1
     go_wp2_with (first | ((with_reducible refine gate_builtin (b := .append) (xs := #[.tmp 23, .tmp 26]) rfl ?_); at_builtin; refine Kd.R_append Kd.string (w0 := w) w.heap.size rfl (.tmp 23) (.tmp 26) 23 9 (.string ⟨#[]⟩) 16 rfl Try.underlying23 info9 rfl (by decide) (by omega) u4 x4_1 ((rd_T72 l0_5 x11_1).f1) [.string ((rd_T72 l0_5 x11_1).f1)] (fun k_ => some k_ ≠ (u5 : Value).ownBlock) (fun _ => False) rfl rfl ?aP (fun _ hk => hk.elim) ?aF ?aO ?aB ?aS ?aL ?_; (case aP => exact rfl); (case aB => exact (belPut)); (case aF => exact (fun k_ hk => Kd.fresh' (Kd.R_lt (kdUp HO_5.out)) k_ hk)); (case aO => exact (kdUp HO_4.out)); (case aS => exact (below_size (belPut))); (case aL => have := LMc17.out; omega); intro v259 w29 ho hb hg hat; rw [← Ny258.out] at ho; replace HO_5 := Aside0.mk (Kd.R_after (ok := (fun _ => True)) (by (with_reducible repeat (first | apply Kd.R_alloc | apply Kd.R_drewN | apply Kd.R_drew)); exact Kd.R_mono HO_5.out (fun _ hk => ⟨trivial, hk⟩)) hg hat); replace BK255 := Aside0.mk (blk_grown (g := gb255) (o := .cells #[.int .i64 a0_0, .int .i64 a0_1, .int .i64 a0_2, .int .i64 a0_3, .string a0_4, .slice (some ad256) l0_5.length c0_5] 41 (0, 0)) (bkUp BK255.out) hg (Kd.R_ne HO_4.out BK255.out (by decide))); replace BK257 := Aside0.mk (blk_grown (g := gb257) (o := .cells #[.int .i64 ((rd_T72 l0_5 x11_1).f0), .string ((rd_T72 l0_5 x11_1).f1)] 72 (0, 0)) (bkUp BK257.out) hg (Kd.R_ne HO_4.out BK257.out (by decide))); replace HB := Aside0.mk hb; have HO260 := Aside0.mk (ho); clear HO_4; clear ho hb hg hat; obtain ⟨hcz30_0, hcz30_1, hfz30_0, hfz30_1⟩ := bcf2 (W := w29) BK257) | ((with_reducible refine gate_builtin (b := .append) (xs := #[.tmp 36, .tmp 39]) rfl ?_); at_builtin; refine Kd.R_append Kd.string (w0 := w) w.heap.size rfl (.tmp 36) (.tmp 39) 23 9 (.string ⟨#[]⟩) 16 rfl Try.underlying23 info9 rfl (by decide) (by omega) u5 x5_1 ((rd_T72 l0_5 x11_1).f1) [.string ((rd_T72 l0_5 x11_1).f1)] (fun k_ => some k_ ≠ (v259 : Value).ownBlock) (fun _ => False) rfl rfl ?aP (fun _ hk => hk.elim) ?aF ?aO ?aB ?aS ?aL ?_; (case aP => exact rfl); (case aB => exact (belPut)); (case aF => exact (fun k_ hk => Kd.fresh' (Kd.R_lt (kdUp HO260.out)) k_ hk)); (case aO => exact (by (with_reducible repeat (first | apply Kd.R_alloc | apply Kd.R_drewN | apply Kd.R_drew)); exact Kd.R_mono HO_5.out (fun _ hk => hk.2))); (case aS => exact (below_size (belPut))); (case aL => have := LMc26.out; omega); intro v265 w31 ho hb hg hat; rw [← Ny264.out] at ho; replace BK255 := Aside0.mk (blk_grown (g := gb255) (o := .cells #[.int .i64 a0_0, .int .i64 a0_1, .int .i64 a0_2, .int .i64 a0_3, .string a0_4, .slice (some ad256) l0_5.length c0_5] 41 (0, 0)) (bkUp BK255.out) hg (Kd.R_ne HO_5.out BK255.out (by decide))); replace BK257 := Aside0.mk (blk_grown (g := gb257) (o := .cells #[.int .i64 ((rd_T72 l0_5 x11_1).f0), .string ((rd_T72 l0_5 x11_1).f1)] 72 (0, 0)) (bkUp BK257.out) hg (Kd.R_ne HO_5.out BK257.out (by decide))); replace HO260 := Aside0.mk (Kd.R_after (ok := (fun _ => True)) (by (with_reducible repeat (first | apply Kd.R_alloc | apply Kd.R_drewN | apply Kd.R_drew)); exact Kd.R_mono HO260.out (fun _ hk => ⟨trivial, hk⟩)) hg hat); replace HB := Aside0.mk hb; have HO266 := Aside0.mk (ho); clear HO_5; clear ho hb hg hat))
     go_roundg kj6
     case measure => have := HK1.out; have := HJ6.out; omega
     case rel => exact ⟨(y258), (y264), (wrap64 (x11_1 + 1)), eqNow, H', ⟨by have := HK1.out; have := HJ6.out; omega⟩, ⟨by (with_reducible repeat (first | apply Kd.R_alloc | apply Kd.R_drewN | apply Kd.R_drew)); exact Kd.R_mono HO260.out (fun _ hk => hk.2)⟩, ⟨kdMv HO266⟩, ⟨bkUp BK255.out⟩, ⟨belPut⟩⟩
def apply_sides.f (k : Nat) (l0 : List (S72)) : Option (List ByteArray × List ByteArray) := (hunks_Sides.f k 0 0 0 0 (⟨#[]⟩ : ByteArray) l0).bind fun bt273 => (some (bt273.1, bt273.2))
theorem apply_sides.mono : ∀ a0 k, LeO (apply_sides.f k a0) (apply_sides.f (k + 1) a0) := by
 intro a0 k
 unfold apply_sides.f
 repeat' first
   | (with_reducible exact hunks_Sides.mono _ _ _ _ _ _ _)
   | (with_reducible exact LeO.refl _)
   | (with_reducible exact LeO.none _)
   | (with_reducible refine LeO.ite ?_ ?_)
   | (with_reducible refine LeO.bind ?_ (fun _ => ?_))
   | exact hunks_Sides.mono _ _ _ _ _ _ _
   | exact LeO.none _
   | refine LeO.ite ?_ ?_
   | refine LeO.bind ?_ (fun _ => ?_)
set_option maxHeartbeats 8000000 in
set_option maxRecDepth 100000 in
theorem apply_sides.calls (k : Nat) (A0 : Option Addr) (c0 : Nat) (l0 : List (S72)) (r1 : List ByteArray) (r2 : List ByteArray) (w : World) (hr0 : Kd.C k72 w A0 l0.length l0) (hc0 : l0.length ≤ c0) (h : apply_sides.f k l0 = some (r1, r2)) :
  Calls Try.prog 28 #[.slice A0 l0.length c0] w fun e w' => ∃ v0_ v1_ : Value, e = .returned (.tuple #[v0_, v1_]) ∧ Kd.R Kd.string 9 w' w.heap.size (fun k_ => some k_ ≠ (v1_ : Value).ownBlock) v0_ r1 ∧ Kd.R Kd.string 9 w' w.heap.size (fun k_ => some k_ ≠ (v0_ : Value).ownBlock) v1_ r2 ∧ Below w.heap.size w w' := by
 have hu41 := Try.underlying41
 have HR0 := Aside0.mk hr0
 have HC0 := Aside0.mk hc0
 clear hr0 hc0
 have HB := Aside0.mk (Below.refl w.heap.size w)
 have H := h
 clear h
 unfold apply_sides.f at H
 replace H := bdS H
 obtain ⟨⟨t273, t276⟩, A2, H⟩ := H
 replace H : (some (t273, t276)) = some (r1, r2) := H
 simp only [Option.some.injEq, Prod.mk.injEq] at H
 obtain ⟨rfl, rfl⟩ := H
 go_enter Try.func28, Try.ntmps28
 go_wp2_with (first | ((with_reducible refine gate_callee (f := 52) rfl ?_); refine goL (some 6) Try.func52 #[.agg #[.int .i64 0, .int .i64 0, .int .i64 0, .int .i64 0, .string (⟨#[]⟩ : ByteArray), .slice A0 l0.length c0]] ?_; (with_reducible refine (hunks_Sides.calls k 0 0 0 0 (⟨#[]⟩ : ByteArray) _ _ l0 t273 t276 _ ?side1 ?side2 A2.out).mono ?_); (case side1 => repeat (first | exact HR0.out | (with_reducible refine Kd.C_alloc ?_ _) | (with_reducible refine Kd.C_drewN ?_ _) | (with_reducible refine Kd.C_drew ?_))); (case side2 => exact HC0.out); rintro e w3 ⟨v274, v277, rfl, ho0, ho1, hb⟩; refine ⟨_, rfl, ?_⟩; have HO275 := Aside0.mk (Kd.R_lower ho0 (below_size belNow)); have HO278 := Aside0.mk (Kd.R_lower ho1 (below_size belNow)); replace HB := hbD HB hb; clear hb; (try clear ho0); (try clear ho1)))
 go_ret2
 exact ⟨_, _, eqEnd, by (with_reducible repeat (first | apply Kd.R_alloc | apply Kd.R_drewN | apply Kd.R_drew)); exact HO275.out, by (with_reducible repeat (first | apply Kd.R_alloc | apply Kd.R_drewN | apply Kd.R_drew)); exact HO278.out, belNow⟩
def apply_stated.f (a0_0 : Int) (a0_1 : Int) (a0_2 : Int) (a0_3 : Int) (a0_4 : ByteArray) (l0_5 : List (S72)) : Option (Int) := if a0_1 = 0 then (some a0_0) else (some (wrap64 (a0_0 - 1)))
set_option maxHeartbeats 8000000 in
set_option maxRecDepth 100000 in
theorem apply_stated.calls (a0_0 : Int) (a0_1 : Int) (a0_2 : Int) (a0_3 : Int) (a0_4 : ByteArray) (A0_5 : Option Addr) (c0_5 : Nat) (l0_5 : List (S72)) (r : Int) (w : World) (hr0_5 : Kd.C k72 w A0_5 l0_5.length l0_5) (hc0_5 : l0_5.length ≤ c0_5) (h : apply_stated.f a0_0 a0_1 a0_2 a0_3 a0_4 l0_5 = some r) :
  Calls Try.prog 29 #[.agg #[.int .i64 a0_0, .int .i64 a0_1, .int .i64 a0_2, .int .i64 a0_3, .string a0_4, .slice A0_5 l0_5.length c0_5]] w fun e w' => e = .returned (.int .i64 r) ∧ Below w.heap.size w w' := by
 have hu41 := Try.underlying41
 have HR0_5 := Aside0.mk hr0_5
 have HC0_5 := Aside0.mk hc0_5
 clear hr0_5 hc0_5
 have HB := Aside0.mk (Below.refl w.heap.size w)
 have H := h
 clear h
 unfold apply_stated.f at H
 replace H := itEn H
 rcases H with ⟨c2, c2b0, c2b1, H⟩ | ⟨-, c2b0, c2b1, H⟩
 ·obtain rfl := Option.some.inj H
  go_enter Try.func29, Try.ntmps29
  go_wp2_with (first | ((with_reducible refine gate_dst (N := 1) rfl ?_); refine boxEv (N := 1) #[.int .i64 a0_0, .int .i64 a0_1, .int .i64 a0_2, .int .i64 a0_3, .string a0_4, .slice A0_5 l0_5.length c0_5] 41 ?_; intro gb279 hg w5 hbox hb; have BK279 := Aside0.mk hbox; have GW279 := gwN HB hg; have GE279 := GW279; replace HB := hbD HB hb; clear hb hbox hg; obtain ⟨hcz6_0, hcz6_1, hcz6_2, hcz6_3, hcz6_4, hcz6_5, hfz6_0, hfz6_1, hfz6_2, hfz6_3, hfz6_4, hfz6_5⟩ := bcf6 (W := w5) BK279))
  go_ret
  exact ⟨eqEnd, belPut⟩
 obtain rfl := Option.some.inj H
 go_enter Try.func29, Try.ntmps29
 go_wp2_with (first | ((with_reducible refine gate_dst (N := 1) rfl ?_); refine boxEv (N := 1) #[.int .i64 a0_0, .int .i64 a0_1, .int .i64 a0_2, .int .i64 a0_3, .string a0_4, .slice A0_5 l0_5.length c0_5] 41 ?_; intro gb279 hg w3 hbox hb; have BK279 := Aside0.mk hbox; have GW279 := gwN HB hg; have GE279 := GW279; replace HB := hbD HB hb; clear hb hbox hg; obtain ⟨hcz4_0, hcz4_1, hcz4_2, hcz4_3, hcz4_4, hcz4_5, hfz4_0, hfz4_1, hfz4_2, hfz4_3, hfz4_4, hfz4_5⟩ := bcf6 (W := w3) BK279))
 go_ret
 exact ⟨eqEnd, belPut⟩
def apply_sum.j0 : Nat → Int → Int → Bool → Option (Int)
 | 0, _, _, _ => none
 | k + 1, x0, x1, x5 => if x5 = true then (some 9223372036854775807) else (if x1 < 0 then (if x0 < (wrap64 ((-9223372036854775808) - x1)) then (some (-9223372036854775808)) else (some (wrap64 (x0 + x1)))) else (some (wrap64 (x0 + x1))))
def apply_sum.f (k : Nat) (a0 : Int) (a1 : Int) : Option (Int) := if a1 > 0 then (apply_sum.j0 k a0 a1 (decide (a0 > (wrap64 (9223372036854775807 - a1))))) else (apply_sum.j0 k a0 a1 false)
theorem apply_sum.mono_l : ∀ k, (∀ y0 y1 y2, LeO (apply_sum.j0 k y0 y1 y2) (apply_sum.j0 (k + 1) y0 y1 y2))
 | 0 => fun _ _ _ r h => by simp [apply_sum.j0] at h
 | k + 1 => by
  have ih0 := apply_sum.mono_l k
  ·intro y0 y1 y2
   unfold apply_sum.j0
   repeat' first
   | (with_reducible exact ih0 _ _ _)
   | (with_reducible exact LeO.refl _)
   | (with_reducible exact LeO.none _)
   | (with_reducible refine LeO.ite ?_ ?_)
   | (with_reducible refine LeO.bind ?_ (fun _ => ?_))
   | exact ih0 _ _ _
   | exact LeO.none _
   | refine LeO.ite ?_ ?_
   | refine LeO.bind ?_ (fun _ => ?_)
theorem apply_sum.mono : ∀ a0 a1 k, LeO (apply_sum.f k a0 a1) (apply_sum.f (k + 1) a0 a1) := by
 intro a0 a1 k
 have ih0 := apply_sum.mono_l k
 unfold apply_sum.f
 repeat' first
   | (with_reducible exact ih0 _ _ _)
   | (with_reducible exact LeO.refl _)
   | (with_reducible exact LeO.none _)
   | (with_reducible refine LeO.ite ?_ ?_)
   | (with_reducible refine LeO.bind ?_ (fun _ => ?_))
   | exact ih0 _ _ _
   | exact LeO.none _
   | refine LeO.ite ?_ ?_
   | refine LeO.bind ?_ (fun _ => ?_)
set_option maxHeartbeats 8000000 in
set_option maxRecDepth 100000 in
theorem apply_sum.calls (k : Nat) (a0 : Int) (a1 : Int) (r : Int) (w : World) (h : apply_sum.f k a0 a1 = some r) :
  Calls Try.prog 41 #[.int .i64 a0, .int .i64 a1] w fun e w' => e = .returned (.int .i64 r) ∧ Drawn0 w w' := by
 have H := h
 clear h
 unfold apply_sum.f at H
 have HC3 := Aside0.mk H
 clear H
 go_enter Try.func41, Try.ntmps41
 go_upto_region 1 with (fail)
 go_cut [5] (fun v5 wc => ∃ (kq : Nat) (x5_2 : Bool), v5 = .bool x5_2 ∧ Aside0 (apply_sum.j0 kq a0 a1 x5_2 = some r) ∧ Aside0 (kq ≤ k) ∧ Drawn0 w wc)
 case first =>
  have H := HC3.out
  clear HC3
  replace H := itGn H
  rcases H with ⟨-, c4b0, H⟩ | ⟨-, c4b0, H⟩
  ·(first | rw [c4b0] | (simp only [i64_w, i32_w]; rw [c4b0]) | skip)
   have H' := Aside0.mk H
   clear H
   go_wp2
   go_meet
   case rel => exact ⟨_, (false), eqNow, H', ⟨by first | omega | exact Nat.le_refl _⟩, drawnNow⟩
  (first | rw [c4b0] | (simp only [i64_w, i32_w]; rw [c4b0]) | skip)
  have H' := Aside0.mk H
  clear H
  go_wp2
  go_meet
  case rel => exact ⟨_, (decide (a0 > (wrap64 (9223372036854775807 - a1)))), eqNow, H', ⟨by first | omega | exact Nat.le_refl _⟩, drawnNow⟩
 case rest =>
  clear HC3
  obtain ⟨kq, x5_2, rfl, HA, HJ2, ⟨mc2, rfl⟩⟩ := hcut
  cases kq with
  | zero => exact absurd HA.out (by simp [apply_sum.j0])
  | succ kj2 =>
   have H := HA.out
   clear HA
   simp only [apply_sum.j0] at H
   replace H := itB H
   rcases H with ⟨rfl, H⟩ | ⟨rfl, H⟩
   ·obtain rfl := Option.some.inj H
    go_wp2
    go_ret
    exact ⟨eqFin, drawnNow⟩
   replace H := itLn H
   rcases H with ⟨-, c6b0, H⟩ | ⟨-, c6b0, H⟩
   ·obtain rfl := Option.some.inj H
    go_wp2
    go_ret
    exact ⟨eqFin, drawnNow⟩
   replace H := itL H
   rcases H with ⟨-, c7b0, H⟩ | ⟨-, c7b0, H⟩
   ·obtain rfl := Option.some.inj H
    go_wp2
    go_ret
    exact ⟨eqFin, drawnNow⟩
   obtain rfl := Option.some.inj H
   go_wp2
   go_ret
   exact ⟨eqFin, drawnNow⟩
end Go.Proofs.Ytkoagpnoaibdjaa.Pp
