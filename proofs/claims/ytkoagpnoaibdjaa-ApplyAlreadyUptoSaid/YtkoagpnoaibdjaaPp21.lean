import Derived.Test.YtkoagpnoaibdjaaESt
import Derived.Test.YtkoagpnoaibdjaaPp0
import Derived.Test.YtkoagpnoaibdjaaPp4
import Derived.Test.YtkoagpnoaibdjaaPp5
import Derived.Test.YtkoagpnoaibdjaaPp13
import Derived.Test.YtkoagpnoaibdjaaEAlready
import Derived.Test.YtkoagpnoaibdjaaERefApply
import Derived.Test.YtkoagpnoaibdjaaESure
namespace Go.Proofs.Ytkoagpnoaibdjaa.Pp
open Go.RowKit Go.Proofs.Ytkoagpnoaibdjaa.Ext Go.Proofs.YtkoagpnoaibdjaaW.PrintWords Go.Proofs.YtkoagpnoaibdjaaW.PrintLast Go.Proofs.YtkoagpnoaibdjaaW.PrintMore
attribute [local go_sem] max2_int min2_int max_two min_two max_three min_three max_four min_four   -- for this text's walks alone
set_option linter.unusedVariables false
set_option linter.unusedSimpArgs false
mutual
def selvageref17_Already.l0 : Nat → List ByteArray → List (S41) → List (S41) → Int → Option (Bool)
 | 0, _, _, _, _ => none
 | k + 1, x0, x1, x5, x6 => if x6 < (x1.length : Int) then (if 0 ≤ x6 then ((selvageref10_Reverse.f k ((rd_T41 x1 x6).f0) ((rd_T41 x1 x6).f1) ((rd_T41 x1 x6).f2) ((rd_T41 x1 x6).f3) ((rd_T41 x1 x6).f4) ((rd_T41 x1 x6).f5)).bind fun bt465 => (if x5.length < 1954687338268 then (selvageref17_Already.l0 k x0 x1 (x5 ++ [(⟨bt465.1, bt465.2.1, bt465.2.2.1, bt465.2.2.2.1, bt465.2.2.2.2.1, bt465.2.2.2.2.2⟩ : S41)]) (wrap64 (x6 + 1))) else (none))) else (none)) else ((selvageref17_Apply.f k x0 x5 0).bind fun bt476 => (selvageref17_Already.l1 k x1 bt476.2.1 bt476.2.2.1 bt476.2.2.2 0))
def selvageref17_Already.l1 : Nat → List (S41) → List (S79) → List Int → Int → Int → Option (Bool)
 | 0, _, _, _, _, _ => none
 | k + 1, x1, x8, x9, x10, x11 => if x11 < (x8.length : Int) then (if 0 ≤ x11 then (if ((rd_T79 x8 x11).f2) = 0 then (selvageref17_Already.l1 k x1 x8 x9 x10 (wrap64 (x11 + 1))) else (some false)) else (none)) else (if x10 = 0 then (if (x9.length : Int) = 0 then (some (decide ((x1.length : Int) > 0))) else (some false)) else (some false))
end
def selvageref17_Already.f (k : Nat) (l0 : List ByteArray) (l1 : List (S41)) : Option (Bool) := selvageref17_Already.l0 k l0 l1 ([] : List (S41)) 0
set_option maxHeartbeats 8000000 in
set_option maxRecDepth 100000 in
theorem selvageref17_Already.calls (k : Nat) (A0 : Option Addr) (c0 : Nat) (l0 : List ByteArray) (A1 : Option Addr) (c1 : Nat) (l1 : List (S41)) (r : Bool) (w : World) (hr0 : Kd.C Kd.string w A0 l0.length l0) (hc0 : l0.length ≤ c0) (hr1 : Kd.C k41 w A1 l1.length l1) (hc1 : l1.length ≤ c1) (h : selvageref17_Already.f k l0 l1 = some r) :
  Calls Try.prog 15 #[.slice A0 l0.length c0, .slice A1 l1.length c1] w fun e w' => e = .returned (.bool r) ∧ Below w.heap.size w w' := by
 have hu41 := Try.underlying41
 have HR0 := Aside0.mk hr0
 have HC0 := Aside0.mk hc0
 clear hr0 hc0
 have HR1 := Aside0.mk hr1
 have HC1 := Aside0.mk hc1
 clear hr1 hc1
 have HB := Aside0.mk (Below.refl w.heap.size w)
 have H := h
 clear h
 unfold selvageref17_Already.f at H
 have H' := Aside0.mk H
 clear H
 go_enter Try.func15, Try.ntmps15
 go_wp2
 go_loopg [5, 6] k (fun kq v5 v6 w' => ∃ (x5_1 : List (S41)) (x6_1 : Int), v6 = .int .i64 x6_1 ∧ Aside0 (selvageref17_Already.l0 kq l0 l1 x5_1 x6_1 = some r) ∧ Aside0 (kq ≤ k) ∧ Aside0 (Kd.S k41 41 w' w.heap.size (fun _ => True) v5 x5_1) ∧ Aside0 (Below w.heap.size w w'))
 case atStart => exact ⟨(([] : List (S41))), (0), eqNow, H', ⟨Nat.le_refl _⟩, ⟨kNil⟩, ⟨belNow⟩⟩
 case round =>
  clear H'
  try clear c1
  obtain ⟨x5_1, x6_1, rfl, HA, HK1, HO_5, HB⟩ := hrel
  cases gk with
  | zero => exact absurd HA.out (by simp [selvageref17_Already.l0])
  | succ k1 =>
   have H := HA.out
   clear HA
   simp only [selvageref17_Already.l0] at H
   replace H := itL H
   rcases H with ⟨-, c3b0, H⟩ | ⟨-, c3b0, H⟩
   ·replace H := itLn H
    rcases H with ⟨_, _, H⟩ | ⟨-, c4b0, H⟩
    ·cases H
    replace H := bdS H
    obtain ⟨⟨t465, t466, t467, t468, t469, t470⟩, A5, H⟩ := H
    replace H : (if x5_1.length < 1954687338268 then (selvageref17_Already.l0 k1 l0 l1 (x5_1 ++ [(⟨t465, t466, t467, t468, t469, t470⟩ : S41)]) (wrap64 (x6_1 + 1))) else (none)) = some r := H
    replace H := itLn H
    rcases H with ⟨_, _, H⟩ | ⟨c6, -, H⟩
    ·cases H
    have LMc6 := Aside0.mk c6
    clear c6
    obtain ⟨y473, hy473⟩ : ∃ y_ : List (S41), y_ = (x5_1 ++ [(⟨t465, t466, t467, t468, t469, t470⟩ : S41)]) := ⟨_, rfl⟩
    replace H : (selvageref17_Already.l0 k1 l0 l1 y473 (wrap64 (x6_1 + 1))) = some r := by first | (rw [hy473]; with_reducible exact H) | (have H2_ := (Option.bind_some _ _).symm.trans H; rw [hy473]; with_reducible exact H2_) | (have H2_ := (Option.bind_some _ _).symm.trans H; with_reducible exact H2_) | with_reducible exact H | (rw [hy473]; exact H) | exact H
    have Ny473 := Aside0.mk hy473
    clear hy473
    have H' := Aside0.mk H
    clear H
    obtain ⟨ad464, A464_5, c464_5, rfl, hx464_0, hx464_1, hx464_2, hx464_3, hx464_4, hx464_5, HC464_5, HR464_5, p464, q464⟩ := atU_T41 HR1 HB x6_1
    go_wp2_with (first | ((with_reducible refine gate_callee (f := 12) rfl ?_); refine goL (some 23) Try.func12 #[.agg #[.int .i64 ((rd_T41 l1 x6_1).f0), .int .i64 ((rd_T41 l1 x6_1).f1), .int .i64 ((rd_T41 l1 x6_1).f2), .int .i64 ((rd_T41 l1 x6_1).f3), .string ((rd_T41 l1 x6_1).f4), .slice A464_5 ((rd_T41 l1 x6_1).f5).length c464_5]] ?_; (with_reducible refine (selvageref10_Reverse.calls k1 ((rd_T41 l1 x6_1).f0) ((rd_T41 l1 x6_1).f1) ((rd_T41 l1 x6_1).f2) ((rd_T41 l1 x6_1).f3) ((rd_T41 l1 x6_1).f4) _ _ ((rd_T41 l1 x6_1).f5) t465 t466 t467 t468 t469 t470 _ ?side1 ?side2 A5.out).mono ?_); (case side1 => exact kcU HR464_5 HB); (case side2 => exact HC464_5.out); rintro e w7 ⟨v471, rfl, ho0, hb⟩; refine ⟨_, rfl, ?_⟩; replace HO_5 := Aside0.mk (Kd.S_elder' (by (with_reducible repeat (first | apply Kd.S_alloc | apply Kd.S_drewN | apply Kd.S_drew)); exact HO_5.out) (Kd.R_base ho0) hb); have HO472 := Aside0.mk (Kd.R_lower ho0 (below_size belNow)); replace HB := hbD HB hb; clear hb; (try clear ho0); obtain ⟨Ao9, co9, eo9⟩ := Kd.R_slice HO472.out; subst eo9) | ((with_reducible refine gate_builtin (b := .append) (xs := #[.tmp 18, .tmp 24]) rfl ?_); (try (refine gate_guard (by rfl) ?_; dsimp only)); at_builtin; refine Kd.S_append k41 (w0 := w) w.heap.size rfl (.tmp 18) (.tmp 24) 26 41 (.agg #[(.int .i64 0), (.int .i64 0), (.int .i64 0), (.int .i64 0), (.string ⟨#[]⟩), (.slice none 0 0)]) 72 rfl Try.underlying26 info41 rfl (by decide) (by omega) u5 x5_1 (⟨t465, t466, t467, t468, t469, t470⟩ : S41) [.int .i64 t465, .int .i64 t466, .int .i64 t467, .int .i64 t468, .string t469, .slice Ao9 t470.length co9] (fun _ => True) (fun k_ => some k_ = (.slice Ao9 t470.length co9 : Value).ownBlock) rfl rfl ?aP (fun k_ hk_ => ((Kd.R_mono (ok' := fun k_ => ((fun _ => True)) k_ ∧ some k_ ≠ (u5 : Value).ownBlock) (Kd.R_apart' (HO472.out) (Kd.S_typed HO_5.out) (by decide)) (fun k_ hk => ⟨trivial, hk.2⟩))).1 k_ hk_.symm) ?aF ?aO ?aB ?aS ?aL ?_; (case aP => exact k41_mkM _ _ _ (⟨t465, t466, t467, t468, t469, t470⟩ : S41) (Kd.R_mono (Kd.R_tight rfl (Kd.R_mono (ok' := fun k_ => ((fun _ => True)) k_ ∧ some k_ ≠ (u5 : Value).ownBlock) (Kd.R_apart' (HO472.out) (Kd.S_typed HO_5.out) (by decide)) (fun k_ hk => ⟨trivial, hk.2⟩))) (fun _ h_ => h_))); (case aB => exact belNow); (case aF => exact (fun _ _ => trivial)); (case aO => exact (by (with_reducible repeat (first | apply Kd.S_alloc | apply Kd.S_drewN | apply Kd.S_drew)); exact Kd.S_mono HO_5.out (fun k_ hk => ⟨trivial, fun e_ => hk.2 e_⟩))); (case aS => exact (below_size belNow)); (case aL => have := LMc6.out; omega); intro v474 w8 ho hb hg hat; rw [← Ny473.out] at ho; replace HB := Aside0.mk hb; have HO475 := Aside0.mk (ho); clear HO_5 HO472; clear ho hb hg hat))
    go_roundg k1
    case measure => have := HK1.out; omega
    case rel => exact ⟨(y473), (wrap64 (x6_1 + 1)), eqNow, H', ⟨by have := HK1.out; omega⟩, ⟨kdMv HO475⟩, ⟨belNow⟩⟩
   replace H := bdS H
   obtain ⟨⟨t476, t477, t478, t479⟩, A10, H⟩ := H
   replace H : (selvageref17_Already.l1 k1 l1 t477 t478 t479 0) = some r := H
   have H' := Aside0.mk H
   clear H
   obtain ⟨Ao11, co11, eo11⟩ := Kd.S_slice HO_5.out
   subst eo11
   go_wp2_with (first | ((with_reducible refine gate_callee (f := 34) rfl ?_); refine goL (some 29) Try.func34 #[.slice A0 l0.length c0, .slice Ao11 x5_1.length co11, .int .i64 0] ?_; (with_reducible refine (selvageref17_Apply.calls k1 _ _ l0 _ _ x5_1 0 t476 t477 t478 t479 _ ?side1 ?side2 ?side3 ?side4 A10.out).mono ?_); (case side1 => exact kcU HR0 HB); (case side2 => exact HC0.out); (case side3 => repeat (first | exact (Kd.S_reads' HO_5.out).2.2 | (with_reducible refine Kd.C_alloc ?_ _) | (with_reducible refine Kd.C_drewN ?_ _) | (with_reducible refine Kd.C_drew ?_))); (case side4 => exact (Kd.S_reads' HO_5.out).2.1); rintro e w12 ⟨v480, v482, v484, rfl, ho0, ho1, ho2, hb⟩; refine ⟨_, rfl, ?_⟩; replace HO_5 := Aside0.mk (Kd.S_below (by (with_reducible repeat (first | apply Kd.S_alloc | apply Kd.S_drewN | apply Kd.S_drew)); exact HO_5.out) hb); have HO481 := Aside0.mk (Kd.R_lower ho0 (below_size belNow)); have HO483 := Aside0.mk (Kd.R_lower ho1 (below_size belNow)); have HO485 := Aside0.mk (Kd.R_lower ho2 (below_size belNow)); replace HB := hbD HB hb; clear hb; (try clear ho0); (try clear ho1); (try clear ho2)))
   go_loopg [11] k1 (fun kq v11 w' => ∃ (x11_2 : Int), v11 = .int .i64 x11_2 ∧ Aside0 (selvageref17_Already.l1 kq l1 t477 t478 t479 x11_2 = some r) ∧ Aside0 (kq ≤ k1) ∧ Aside0 (Kd.R k79 79 w' w.heap.size (fun _ => True) v482 t477) ∧ Aside0 (Kd.R (Kd.int .i64) 3 w' w.heap.size (fun _ => True) v484 t478) ∧ Aside0 (Below w.heap.size w w'))
   case atStart => exact ⟨(0), eqNow, H', ⟨Nat.le_refl _⟩, ⟨kdMv HO483⟩, ⟨kdMv HO485⟩, ⟨belNow⟩⟩
   case round =>
    clear H'
    try clear c1
    try clear c3
    try clear c3b0
    obtain ⟨x11_2, rfl, HA, HK2, HO_8, HO_9, HB⟩ := hrel
    cases gk with
    | zero => exact absurd HA.out (by simp [selvageref17_Already.l1])
    | succ k2 =>
     have H := HA.out
     clear HA
     simp only [selvageref17_Already.l1] at H
     replace H := itLn H
     rcases H with ⟨-, c13b0, H⟩ | ⟨-, c13b0, H⟩
     ·replace H := itEn H
      rcases H with ⟨c18, c18b0, c18b1, H⟩ | ⟨-, c18b0, c18b1, H⟩
      ·obtain rfl := Option.some.inj H
       obtain ⟨Ao24, co24, eo24⟩ := Kd.R_slice HO_8.out
       subst eo24
       go_wp2
       go_ret
       exact ⟨eqEnd, belNow⟩
      replace H := itE H
      rcases H with ⟨-, c19b0, c19b1, H⟩ | ⟨c19, c19b0, c19b1, H⟩
      ·obtain rfl := Option.some.inj H
       obtain ⟨Ao20, co20, eo20⟩ := Kd.R_slice HO_8.out
       subst eo20
       obtain ⟨Ao21, co21, eo21⟩ := Kd.R_slice HO_9.out
       subst eo21
       go_wp2
       go_ret
       exact ⟨eqEnd, belNow⟩
      have c19b2 : ¬ (t478 = []) := fun h_ => c19 (by rw [h_]; rfl)
      obtain rfl := Option.some.inj H
      obtain ⟨Ao22, co22, eo22⟩ := Kd.R_slice HO_8.out
      subst eo22
      obtain ⟨Ao23, co23, eo23⟩ := Kd.R_slice HO_9.out
      subst eo23
      go_wp2
      go_ret
      exact ⟨eqEnd, belNow⟩
     replace H := itLn H
     rcases H with ⟨_, _, H⟩ | ⟨-, c14b0, H⟩
     ·cases H
     replace H := itEn H
     rcases H with ⟨c15, c15b0, c15b1, H⟩ | ⟨-, c15b0, c15b1, H⟩
     ·obtain rfl := Option.some.inj H
      obtain ⟨Ao17, co17, eo17⟩ := Kd.R_slice HO_8.out
      subst eo17
      have p486 : 0 ≤ (x11_2 : Int) := ofDec
      have q486 : x11_2 < (t477.length : Int) := ofDec
      obtain ⟨ad486, e486, hx486_0, hx486_1, hx486_2, hx486_3⟩ := at_T79 (Kd.R_reads' HO_8.out).2.2 x11_2 p486 q486
      cases e486
      replace p486 := eq_true p486
      replace q486 := eq_true q486
      go_wp2
      go_ret
      exact ⟨eqEnd, belNow⟩
     have H' := Aside0.mk H
     clear H
     obtain ⟨Ao16, co16, eo16⟩ := Kd.R_slice HO_8.out
     subst eo16
     have p486 : 0 ≤ (x11_2 : Int) := ofDec
     have q486 : x11_2 < (t477.length : Int) := ofDec
     obtain ⟨ad486, e486, hx486_0, hx486_1, hx486_2, hx486_3⟩ := at_T79 (Kd.R_reads' HO_8.out).2.2 x11_2 p486 q486
     cases e486
     replace p486 := eq_true p486
     replace q486 := eq_true q486
     go_wp2
     go_roundg k2
     case measure => have := HK1.out; have := HK2.out; omega
     case rel => exact ⟨(wrap64 (x11_2 + 1)), eqNow, H', ⟨by have := HK1.out; have := HK2.out; omega⟩, ⟨kdMv HO_8⟩, ⟨kdMv HO_9⟩, ⟨belNow⟩⟩
def selvagelaw17_ApplyAlready.j0 : Nat → List (S41) → Bool → List (S57) → List ByteArray → List ByteArray → Int → Int → Option (Bool)
 | 0, _, _, _, _, _, _, _ => none
 | k + 1, x7, x39, x488000, x488001, x488002, x488003, x488004 => if x39 = true then ((apply_Already.f k x488002 ([] : List (S41))).bind fun t495 => (if t495 = true then (none) else ((selvagelaw17_sure.f k).bind fun t496 => (some t496)))) else ((apply_Already.f k x488002 x7).bind fun t497 => (if t497 = true then ((apply_Already.f k x488002 ([] : List (S41))).bind fun t498 => (if t498 = true then (none) else ((selvagelaw17_sure.f k).bind fun t499 => (some t499)))) else (none)))
def selvagelaw17_ApplyAlready.f (k : Nat) (l0 : List ByteArray) (l1 : List (S41)) (l2_0 : List (S57)) (l2_1 : List ByteArray) (l2_2 : List ByteArray) (a2_3 : Int) (a2_4 : Int) : Option (Bool) := (apply_Already.f k l0 l1).bind fun t488 => ((selvageref17_Already.f k l0 l1).bind fun t489 => (if (t488 != t489) = true then (none) else ((selvageref10_Build.f k l2_0 l2_1 l2_2 a2_3).bind fun bt490 => (if bt490.2 = 0 then ((selvagelaw17_common.f k l2_0 l2_1 l2_2 a2_3 a2_4).bind fun t494 => (if t494 = true then (selvagelaw17_ApplyAlready.j0 k bt490.1 ((bt490.1.length : Int) == 0) l2_0 l2_1 l2_2 a2_3 a2_4) else (selvagelaw17_ApplyAlready.j0 k bt490.1 true l2_0 l2_1 l2_2 a2_3 a2_4))) else (selvagelaw17_ApplyAlready.j0 k bt490.1 true l2_0 l2_1 l2_2 a2_3 a2_4)))))
set_option maxHeartbeats 8000000 in
set_option maxRecDepth 100000 in
theorem selvagelaw17_ApplyAlready.calls (k : Nat) (A0 : Option Addr) (c0 : Nat) (l0 : List ByteArray) (A1 : Option Addr) (c1 : Nat) (l1 : List (S41)) (A2_0 : Option Addr) (c2_0 : Nat) (l2_0 : List (S57)) (A2_1 : Option Addr) (c2_1 : Nat) (l2_1 : List ByteArray) (A2_2 : Option Addr) (c2_2 : Nat) (l2_2 : List ByteArray) (a2_3 : Int) (a2_4 : Int) (r : Bool) (w : World) (hr0 : Kd.C Kd.string w A0 l0.length l0) (hc0 : l0.length ≤ c0) (hr1 : Kd.C k41 w A1 l1.length l1) (hc1 : l1.length ≤ c1) (hr2_0 : Kd.C k57 w A2_0 l2_0.length l2_0) (hc2_0 : l2_0.length ≤ c2_0) (hr2_1 : Kd.C Kd.string w A2_1 l2_1.length l2_1) (hc2_1 : l2_1.length ≤ c2_1) (hr2_2 : Kd.C Kd.string w A2_2 l2_2.length l2_2) (hc2_2 : l2_2.length ≤ c2_2) (h : selvagelaw17_ApplyAlready.f k l0 l1 l2_0 l2_1 l2_2 a2_3 a2_4 = some r) :
  Calls Try.prog 5 #[.slice A0 l0.length c0, .slice A1 l1.length c1, .agg #[.slice A2_0 l2_0.length c2_0, .slice A2_1 l2_1.length c2_1, .slice A2_2 l2_2.length c2_2, .int .i64 a2_3, .int .i64 a2_4]] w fun e w' => e = .returned (.bool r) ∧ Below w.heap.size w w' := by
 have hu25 := Try.underlying25
 have HR0 := Aside0.mk hr0
 have HC0 := Aside0.mk hc0
 clear hr0 hc0
 have HR1 := Aside0.mk hr1
 have HC1 := Aside0.mk hc1
 clear hr1 hc1
 have HR2_0 := Aside0.mk hr2_0
 have HC2_0 := Aside0.mk hc2_0
 clear hr2_0 hc2_0
 have HR2_1 := Aside0.mk hr2_1
 have HC2_1 := Aside0.mk hc2_1
 clear hr2_1 hc2_1
 have HR2_2 := Aside0.mk hr2_2
 have HC2_2 := Aside0.mk hc2_2
 clear hr2_2 hc2_2
 have HB := Aside0.mk (Below.refl w.heap.size w)
 have H := h
 clear h
 unfold selvagelaw17_ApplyAlready.f at H
 replace H := bdS H
 obtain ⟨t488, A4, H⟩ := H
 replace H := bdS H
 obtain ⟨t489, A5, H⟩ := H
 replace H := itE H
 rcases H with ⟨_, _, _, H⟩ | ⟨c6, -, -, H⟩
 ·cases H
 have c6b0 : (t488 != t489) = false := by simpa using c6
 (try (have c6b1 : decide (t488 = t489) = true := by simpa using c6))
 (try (have c6b2 : (t488 == t489) = true := by simpa using c6))
 clear c6
 replace H := bdS H
 obtain ⟨⟨t490, t491⟩, A10, H⟩ := H
 replace H : (if t491 = 0 then ((selvagelaw17_common.f k l2_0 l2_1 l2_2 a2_3 a2_4).bind fun t494 => (if t494 = true then (selvagelaw17_ApplyAlready.j0 k t490 ((t490.length : Int) == 0) l2_0 l2_1 l2_2 a2_3 a2_4) else (selvagelaw17_ApplyAlready.j0 k t490 true l2_0 l2_1 l2_2 a2_3 a2_4))) else (selvagelaw17_ApplyAlready.j0 k t490 true l2_0 l2_1 l2_2 a2_3 a2_4)) = some r := H
 have HC11 := Aside0.mk H
 clear H
 go_enter Try.func5, Try.ntmps5
 go_upto_region 4 with (first | ((with_reducible refine gate_dst (N := 5) rfl ?_); (try (refine gate_guard (by rfl) ?_; dsimp only)); refine boxEv (N := 5) #[.slice A2_0 l2_0.length c2_0, .slice A2_1 l2_1.length c2_1, .slice A2_2 l2_2.length c2_2, .int .i64 a2_3, .int .i64 a2_4] 25 ?_; intro gb487 hg w12 hbox hb; have BK487 := Aside0.mk hbox; have GW487 := gwN HB hg; have GE487 := GW487; replace HB := hbD HB hb; clear hb hbox hg) | ((with_reducible refine gate_callee (f := 14) rfl ?_); refine goL (some 11) Try.func14 #[.slice A0 l0.length c0, .slice A1 l1.length c1] ?_; (with_reducible refine (apply_Already.calls k _ _ l0 _ _ l1 t488 _ ?side1 ?side2 ?side3 ?side4 A4.out).mono ?_); (case side1 => exact kcU HR0 HB); (case side2 => exact HC0.out); (case side3 => exact kcU HR1 HB); (case side4 => exact HC1.out); rintro e w13 ⟨rfl, hb⟩; refine ⟨_, rfl, ?_⟩; replace BK487 := bkD BK487 hb; replace HB := hbD HB hb; clear hb) | ((with_reducible refine gate_callee (f := 15) rfl ?_); refine goL (some 14) Try.func15 #[.slice A0 l0.length c0, .slice A1 l1.length c1] ?_; (with_reducible refine (selvageref17_Already.calls k _ _ l0 _ _ l1 t489 _ ?side1 ?side2 ?side3 ?side4 A5.out).mono ?_); (case side1 => exact kcU HR0 HB); (case side2 => exact HC0.out); (case side3 => exact kcU HR1 HB); (case side4 => exact HC1.out); rintro e w14 ⟨rfl, hb⟩; refine ⟨_, rfl, ?_⟩; replace BK487 := bkD BK487 hb; replace HB := hbD HB hb; clear hb; obtain ⟨hcz15_0, hcz15_1, hcz15_2, hcz15_3, hcz15_4, hfz15_0, hfz15_1, hfz15_2, hfz15_3, hfz15_4⟩ := bcf5 (W := w14) BK487) | ((with_reducible refine gate_callee (f := 6) rfl ?_); refine goL (some 25) Try.func6 #[.slice A2_0 l2_0.length c2_0, .slice A2_1 l2_1.length c2_1, .slice A2_2 l2_2.length c2_2, .int .i64 a2_3] ?_; (with_reducible refine (selvageref10_Build.calls k _ _ l2_0 _ _ l2_1 _ _ l2_2 a2_3 t490 t491 _ ?side1 ?side2 ?side3 ?side4 ?side5 ?side6 A10.out).mono ?_); (case side1 => exact kcU HR2_0 HB); (case side2 => exact HC2_0.out); (case side3 => exact kcU HR2_1 HB); (case side4 => exact HC2_1.out); (case side5 => exact kcU HR2_2 HB); (case side6 => exact HC2_2.out); rintro e w16 ⟨v492, rfl, ho0, hb⟩; refine ⟨_, rfl, ?_⟩; have HO493 := Aside0.mk (Kd.S_lower ho0 (below_size (belPut))); replace BK487 := bkD BK487 hb; replace HB := hbD HB hb; clear hb; (try clear ho0)))
 (try simp only [Act.put, List.setIfInBounds_toArray, List.set_cons_zero, List.set_cons_succ])
 go_cut [39] (fun v39 wc => ∃ (kq : Nat) (x39_10 : Bool), v39 = .bool x39_10 ∧ Aside0 (selvagelaw17_ApplyAlready.j0 kq t490 x39_10 l2_0 l2_1 l2_2 a2_3 a2_4 = some r) ∧ Aside0 (kq ≤ k) ∧ Aside0 (Kd.S k41 41 wc w.heap.size (fun _ => True) v492 t490) ∧ Aside0 (wc.heap[gb487]? = some (.cells #[(.slice A2_0 l2_0.length c2_0), (.slice A2_1 l2_1.length c2_1), (.slice A2_2 l2_2.length c2_2), .int .i64 a2_3, .int .i64 a2_4] 25 (0, 0))) ∧ Aside0 (Below w.heap.size w wc))
 case first =>
  have H := HC11.out
  clear HC11
  replace H := itEn H
  rcases H with ⟨c17, c17b0, c17b1, H⟩ | ⟨-, c17b0, c17b1, H⟩
  ·(first | rw [c17b0] | (simp only [i64_w, i32_w]; rw [c17b0]) | skip)
   have H' := Aside0.mk H
   clear H
   go_wp2
   go_meet
   case rel => exact ⟨_, (true), eqNow, H', ⟨by first | omega | exact Nat.le_refl _⟩, ⟨kdMv HO493⟩, ⟨bkUp BK487.out⟩, ⟨belPut⟩⟩
  (first | rw [c17b0] | (simp only [i64_w, i32_w]; rw [c17b0]) | skip)
  replace H := bdS H
  obtain ⟨t494, A18, H⟩ := H
  replace H := itBn H
  rcases H with ⟨rfl, H⟩ | ⟨rfl, H⟩
  ·have H' := Aside0.mk H
   clear H
   have hcz23_0 := bkc (v := .slice A2_0 l2_0.length c2_0) BK487.out 0 rfl
   have hcz23_1 := bkc (v := .slice A2_1 l2_1.length c2_1) BK487.out 1 rfl
   have hcz23_2 := bkc (v := .slice A2_2 l2_2.length c2_2) BK487.out 2 rfl
   have hcz23_3 := bkc (v := .int .i64 a2_3) BK487.out 3 rfl
   have hcz23_4 := bkc (v := .int .i64 a2_4) BK487.out 4 rfl
   have hfz23_0 := blk_frozen BK487.out 0
   have hfz23_1 := blk_frozen BK487.out 1
   have hfz23_2 := blk_frozen BK487.out 2
   have hfz23_3 := blk_frozen BK487.out 3
   have hfz23_4 := blk_frozen BK487.out 4
   go_wp2_with (first | (go_at_call 7; (with_reducible refine (selvagelaw17_common.calls k _ _ l2_0 _ _ l2_1 _ _ l2_2 a2_3 a2_4 false _ ?side1 ?side2 ?side3 ?side4 ?side5 ?side6 A18.out).mono ?_); (case side1 => exact kcU HR2_0 HB); (case side2 => exact HC2_0.out); (case side3 => exact kcU HR2_1 HB); (case side4 => exact HC2_1.out); (case side5 => exact kcU HR2_2 HB); (case side6 => exact HC2_2.out); rintro e w24 ⟨rfl, hb⟩; replace HO493 := Aside0.mk (Kd.S_below (by (with_reducible repeat (first | apply Kd.S_alloc | apply Kd.S_drewN | apply Kd.S_drew)); exact HO493.out) hb); replace BK487 := bkD BK487 hb; replace HB := hbD HB hb; clear hb))
   go_meet
   case rel => exact ⟨_, (true), eqNow, H', ⟨by first | omega | exact Nat.le_refl _⟩, ⟨kdMv HO493⟩, ⟨bkUp BK487.out⟩, ⟨belPut⟩⟩
  have H' := Aside0.mk H
  clear H
  have hcz20_0 := bkc (v := .slice A2_0 l2_0.length c2_0) BK487.out 0 rfl
  have hcz20_1 := bkc (v := .slice A2_1 l2_1.length c2_1) BK487.out 1 rfl
  have hcz20_2 := bkc (v := .slice A2_2 l2_2.length c2_2) BK487.out 2 rfl
  have hcz20_3 := bkc (v := .int .i64 a2_3) BK487.out 3 rfl
  have hcz20_4 := bkc (v := .int .i64 a2_4) BK487.out 4 rfl
  have hfz20_0 := blk_frozen BK487.out 0
  have hfz20_1 := blk_frozen BK487.out 1
  have hfz20_2 := blk_frozen BK487.out 2
  have hfz20_3 := blk_frozen BK487.out 3
  have hfz20_4 := blk_frozen BK487.out 4
  go_wp2_with (first | (go_at_call 7; (with_reducible refine (selvagelaw17_common.calls k _ _ l2_0 _ _ l2_1 _ _ l2_2 a2_3 a2_4 true _ ?side1 ?side2 ?side3 ?side4 ?side5 ?side6 A18.out).mono ?_); (case side1 => exact kcU HR2_0 HB); (case side2 => exact HC2_0.out); (case side3 => exact kcU HR2_1 HB); (case side4 => exact HC2_1.out); (case side5 => exact kcU HR2_2 HB); (case side6 => exact HC2_2.out); rintro e w21 ⟨rfl, hb⟩; replace HO493 := Aside0.mk (Kd.S_below (by (with_reducible repeat (first | apply Kd.S_alloc | apply Kd.S_drewN | apply Kd.S_drew)); exact HO493.out) hb); replace BK487 := bkD BK487 hb; replace HB := hbD HB hb; clear hb; obtain ⟨Ao22, co22, eo22⟩ := Kd.S_slice HO493.out; subst eo22))
  go_meet
  case rel => exact ⟨_, (((t490.length : Int) == 0)), eqNow, H', ⟨by first | omega | exact Nat.le_refl _⟩, ⟨kdMv HO493⟩, ⟨bkUp BK487.out⟩, ⟨belPut⟩⟩
 case rest =>
  clear HC11
  try clear c1
  try clear c6
  try clear c6b0
  try clear c6b1
  try clear c6b2
  try clear hcz15_0 hcz15_1 hcz15_2 hcz15_3 hcz15_4
  try clear hfz15_0 hfz15_1 hfz15_2 hfz15_3 hfz15_4
  obtain ⟨kq, x39_10, rfl, HA, HJ10, HO_7, BK487, HB⟩ := hcut
  cases kq with
  | zero => exact absurd HA.out (by simp [selvagelaw17_ApplyAlready.j0])
  | succ kj10 =>
   have H := HA.out
   clear HA
   simp only [selvagelaw17_ApplyAlready.j0] at H
   replace H := itB H
   rcases H with ⟨rfl, H⟩ | ⟨rfl, H⟩
   ·replace H := bdS H
    obtain ⟨t495, A26, H⟩ := H
    by_cases c27 : t495 = true
    ·rw [if_pos c27] at H
     exact absurd H (by simp)
    replace c27 := Bool.eq_false_iff.mpr c27
    subst c27
    have H1 : ((selvagelaw17_sure.f kj10).bind fun t496 => (some t496)) = some r := by rw [if_neg (show ¬ (false = true) by decide)] at H; exact H
    clear H
    have H := H1
    clear H1
    replace H := bdS H
    obtain ⟨t496, A30, H⟩ := H
    obtain rfl := Option.some.inj H
    have hcz31_0 := bkc (v := .slice A2_0 l2_0.length c2_0) BK487.out 0 rfl
    have hcz31_1 := bkc (v := .slice A2_1 l2_1.length c2_1) BK487.out 1 rfl
    have hcz31_2 := bkc (v := .slice A2_2 l2_2.length c2_2) BK487.out 2 rfl
    have hcz31_3 := bkc (v := .int .i64 a2_3) BK487.out 3 rfl
    have hcz31_4 := bkc (v := .int .i64 a2_4) BK487.out 4 rfl
    have hfz31_0 := blk_frozen BK487.out 0
    have hfz31_1 := blk_frozen BK487.out 1
    have hfz31_2 := blk_frozen BK487.out 2
    have hfz31_3 := blk_frozen BK487.out 3
    have hfz31_4 := blk_frozen BK487.out 4
    go_wp2_with (first | ((with_reducible refine gate_callee (f := 14) rfl ?_); refine goL (some 42) Try.func14 #[.slice A2_2 l2_2.length c2_2, .slice none 0 0] ?_; (refine (apply_Already.calls kj10 _ _ l2_2 _ _ ([] : List (S41)) false _ ?side1 ?side2 ?side3 ?side4 A26.out).mono ?_); (case side1 => exact kcU HR2_2 HB); (case side2 => exact HC2_2.out); (case side3 => exact Kd.C_nil _ _); (case side4 => exact Nat.le_refl _); rintro e w32 ⟨rfl, hb⟩; refine ⟨_, rfl, ?_⟩; replace HO_7 := Aside0.mk (Kd.S_below (by (with_reducible repeat (first | apply Kd.S_alloc | apply Kd.S_drewN | apply Kd.S_drew)); exact HO_7.out) hb); replace BK487 := bkD BK487 hb; replace HB := hbD HB hb; clear hb) | (go_at_call 8; (with_reducible refine (selvagelaw17_sure.calls kj10  t496 _ A30.out).mono ?_); rintro e w33 ⟨rfl, hb⟩; replace HO_7 := Aside0.mk (Kd.S_below (by (with_reducible repeat (first | apply Kd.S_alloc | apply Kd.S_drewN | apply Kd.S_drew)); exact HO_7.out) hb); replace BK487 := bkD BK487 hb; replace HB := hbD HB hb; clear hb))
    go_ret
    exact ⟨eqEnd, belPut⟩
   replace H := bdS H
   obtain ⟨t497, A34, H⟩ := H
   by_cases c35 : t497 = true
   rotate_left
   ·rw [if_neg c35] at H
    exact absurd H (by simp)
   subst c35
   have H1 : ((apply_Already.f kj10 l2_2 ([] : List (S41))).bind fun t498 => (if t498 = true then (none) else ((selvagelaw17_sure.f kj10).bind fun t499 => (some t499)))) = some r := by rw [if_pos rfl] at H; exact H
   clear H
   have H := H1
   clear H1
   replace H := bdS H
   obtain ⟨t498, A36, H⟩ := H
   by_cases c37 : t498 = true
   ·rw [if_pos c37] at H
    exact absurd H (by simp)
   replace c37 := Bool.eq_false_iff.mpr c37
   subst c37
   have H1 : ((selvagelaw17_sure.f kj10).bind fun t499 => (some t499)) = some r := by rw [if_neg (show ¬ (false = true) by decide)] at H; exact H
   clear H
   have H := H1
   clear H1
   replace H := bdS H
   obtain ⟨t499, A43, H⟩ := H
   obtain rfl := Option.some.inj H
   have hcz44_0 := bkc (v := .slice A2_0 l2_0.length c2_0) BK487.out 0 rfl
   have hcz44_1 := bkc (v := .slice A2_1 l2_1.length c2_1) BK487.out 1 rfl
   have hcz44_2 := bkc (v := .slice A2_2 l2_2.length c2_2) BK487.out 2 rfl
   have hcz44_3 := bkc (v := .int .i64 a2_3) BK487.out 3 rfl
   have hcz44_4 := bkc (v := .int .i64 a2_4) BK487.out 4 rfl
   have hfz44_0 := blk_frozen BK487.out 0
   have hfz44_1 := blk_frozen BK487.out 1
   have hfz44_2 := blk_frozen BK487.out 2
   have hfz44_3 := blk_frozen BK487.out 3
   have hfz44_4 := blk_frozen BK487.out 4
   obtain ⟨Ao45, co45, eo45⟩ := Kd.S_slice HO_7.out
   subst eo45
   go_wp2_with (first | ((with_reducible refine gate_callee (f := 14) rfl ?_); refine goL (some 50) Try.func14 #[.slice A2_2 l2_2.length c2_2, .slice Ao45 t490.length co45] ?_; (with_reducible refine (apply_Already.calls kj10 _ _ l2_2 _ _ t490 true _ ?side1 ?side2 ?side3 ?side4 A34.out).mono ?_); (case side1 => exact kcU HR2_2 HB); (case side2 => exact HC2_2.out); (case side3 => repeat (first | exact (Kd.S_reads' HO_7.out).2.2 | (with_reducible refine Kd.C_alloc ?_ _) | (with_reducible refine Kd.C_drewN ?_ _) | (with_reducible refine Kd.C_drew ?_))); (case side4 => exact (Kd.S_reads' HO_7.out).2.1); rintro e w46 ⟨rfl, hb⟩; refine ⟨_, rfl, ?_⟩; replace HO_7 := Aside0.mk (Kd.S_below (by (with_reducible repeat (first | apply Kd.S_alloc | apply Kd.S_drewN | apply Kd.S_drew)); exact HO_7.out) hb); replace BK487 := bkD BK487 hb; replace HB := hbD HB hb; clear hb; obtain ⟨hcz47_0, hcz47_1, hcz47_2, hcz47_3, hcz47_4, hfz47_0, hfz47_1, hfz47_2, hfz47_3, hfz47_4⟩ := bcf5 (W := w46) BK487) | (go_at_call 14; (refine (apply_Already.calls kj10 _ _ l2_2 _ _ ([] : List (S41)) false _ ?side1 ?side2 ?side3 ?side4 A36.out).mono ?_); (case side1 => exact kcU HR2_2 HB); (case side2 => exact HC2_2.out); (case side3 => exact Kd.C_nil _ _); (case side4 => exact Nat.le_refl _); rintro e w48 ⟨rfl, hb⟩; replace HO_7 := Aside0.mk (Kd.S_below (by (with_reducible repeat (first | apply Kd.S_alloc | apply Kd.S_drewN | apply Kd.S_drew)); exact HO_7.out) hb); replace BK487 := bkD BK487 hb; replace HB := hbD HB hb; clear hb) | (go_at_call 8; (with_reducible refine (selvagelaw17_sure.calls kj10  t499 _ A43.out).mono ?_); rintro e w49 ⟨rfl, hb⟩; replace HO_7 := Aside0.mk (Kd.S_below (by (with_reducible repeat (first | apply Kd.S_alloc | apply Kd.S_drewN | apply Kd.S_drew)); exact HO_7.out) hb); replace BK487 := bkD BK487 hb; replace HB := hbD HB hb; clear hb))
   go_ret
   exact ⟨eqEnd, belPut⟩
end Go.Proofs.Ytkoagpnoaibdjaa.Pp
