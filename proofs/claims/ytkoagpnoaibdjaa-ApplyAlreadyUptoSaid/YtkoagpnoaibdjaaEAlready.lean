/-
  apply.Already and what it hands to slices.ContainsFunc; walked by hand.
-/
import Derived.Test.YtkoagpnoaibdjaaEApply
import Derived.Test.YtkoagpnoaibdjaaEReverse
import Derived.Test.YtkoagpnoaibdjaaESt
namespace Go.Proofs.Ytkoagpnoaibdjaa.Ext
open Go.RowKit Go.Proofs.Ytkoagpnoaibdjaa.Pp Go.Proofs.YtkoagpnoaibdjaaW.PrintWords Go.Proofs.YtkoagpnoaibdjaaW.PrintLast Go.Proofs.YtkoagpnoaibdjaaW.PrintMore
set_option linter.unusedVariables false
set_option linter.unusedSimpArgs false
def findOff : List S45 → Nat → Int
  | [], _ => -1
  | h :: t, i => if h.f2 = 0 then findOff t (i + 1) else (i : Int)
set_option maxHeartbeats 4000000 in
set_option maxRecDepth 100000 in
theorem isOff.calls (a0 a1 a2 a3 : Int) (w : World) :
    Calls Try.prog 33 #[.agg #[.int .i64 a0, .int .i64 a1, .int .i64 a2, .int .i64 a3]] w fun e w' => e = .returned (.bool (a2 != 0)) ∧ Below w.heap.size w w' := by
  go_enter Try.func33, Try.ntmps33
  go_wp2
  go_ret
  exact ⟨rfl, below_alloc (Below.refl _ _) _⟩
set_option maxHeartbeats 4000000 in
set_option maxRecDepth 100000 in
theorem indexOff.calls (A0 : Option Addr) (c0 : Nat) (l0 : List S45) (r : Int) (w : World) (hr0 : Kd.C k45 w A0 l0.length l0) (hlen : l0.length ≤ 9223372036854775807) (h : findOff l0 0 = r) :
    Calls Try.prog 55 #[.slice A0 l0.length c0, .func (.func 33) #[] #[]] w fun e w' => e = .returned (.int .i64 r) ∧ Below w.heap.size w w' := by
  have HR := Aside0.mk hr0
  have H0 := Aside0.mk h
  clear hr0 h
  go_enter Try.func55, Try.ntmps55
  go_wp2
  go_loopg [5, 8] (l0.length + 1) (fun kq v5 v8 w' => ∃ (i : Nat), v8 = .int .i64 (i : Int) ∧ Aside0 (i + kq = l0.length + 1 ∧ i ≤ l0.length) ∧ Aside0 (findOff (l0.drop i) i = r) ∧ Aside0 (Below w.heap.size w w'))
  case atStart => exact ⟨0, rfl, ⟨by omega⟩, H0, ⟨Below.refl _ _⟩⟩
  case round =>
    clear H0
    obtain ⟨i, rfl, HK, H, HB⟩ := hrel
    by_cases hi : i < l0.length
    · have p1 : 0 ≤ (i : Int) := by omega
      have q1 : (i : Int) < (l0.length : Int) := by omega
      have H1 := H.out
      rw [dropS l0 z45 i hi] at H1
      simp only [findOff] at H1
      have hrd : l0.getD i z45 = rd_T45 l0 (i : Int) := rfl
      rw [hrd] at H1
      obtain ⟨ad, e1, hx0, hx1, hx2, hx3⟩ := at_T45 (Kd.C_below HR.out HB.out) (i : Int) p1 q1
      cases e1
      simp only [Int.toNat_natCast] at hx0 hx1 hx2 hx3
      have z1 : decide ((i : Int) < (l0.length : Int)) = true := decide_eq_true q1
      generalize rd_T45 l0 (i : Int) = g at H1 hx0 hx1 hx2 hx3
      clear hrd H
      have HW : Aside0 (wrap64 ((i : Int) + 1) = ((i + 1 : Nat) : Int)) := ⟨by rw [Pure.w64' (by omega) (by omega)]; omega⟩
      by_cases hk : g.f2 = 0
      · rw [if_pos hk] at H1
        have H2 := Aside0.mk H1
        have z2 : (g.f2 != 0) = false := bne_eq_false_iff_eq.mpr hk
        clear H1 hk
        go_wp2_with (go_at_call 33; (with_reducible refine (isOff.calls g.f0 g.f1 g.f2 g.f3 _).mono ?_); rintro e w' ⟨rfl, hb⟩; have HB2 := Aside0.mk (below_step HB.out hb); clear hb)
        go_roundg (gk - 1)
        case measure => have := HK.out; omega
        case rel => exact ⟨i + 1, (by first | (rw [HW.out]; done) | go_num | (simp; done)), ⟨by have := HK.out; omega⟩, H2, HB2⟩
      · rw [if_neg hk] at H1
        obtain rfl := H1
        have z2 : (g.f2 != 0) = true := bne_iff_ne.mpr hk
        clear hk
        go_wp2_with (go_at_call 33; (with_reducible refine (isOff.calls g.f0 g.f1 g.f2 g.f3 _).mono ?_); rintro e w' ⟨rfl, hb⟩; have HB2 := Aside0.mk (below_step HB.out hb); clear hb)
        go_ret
        exact ⟨rfl, HB2.out⟩
    · have hd : l0.drop i = [] := List.drop_of_length_le (by omega)
      have h1 := H.out
      rw [hd] at h1
      simp only [findOff] at h1
      obtain rfl := h1
      have z1 : decide ((i : Int) < (l0.length : Int)) = false := decide_eq_false (by omega)
      clear H
      go_wp2
      go_ret
      exact ⟨rfl, HB.out⟩
set_option maxHeartbeats 4000000 in
set_option maxRecDepth 100000 in
theorem containsOff.calls (A0 : Option Addr) (c0 : Nat) (l0 : List S45) (r : Int) (w : World) (hr0 : Kd.C k45 w A0 l0.length l0) (hlen : l0.length ≤ 9223372036854775807) (h : findOff l0 0 = r) :
    Calls Try.prog 32 #[.slice A0 l0.length c0, .func (.func 33) #[] #[]] w fun e w' => e = .returned (.bool (decide (0 ≤ r))) ∧ Below w.heap.size w w' := by
  go_enter Try.func32, Try.ntmps32
  go_wp2_with (go_at_call 55; (with_reducible refine (indexOff.calls A0 c0 l0 r _ hr0 hlen h).mono ?_); rintro e w' ⟨rfl, hb⟩; have HB2 := Aside0.mk hb; clear hb)
  go_ret
  exact ⟨rfl, HB2.out⟩
theorem S_far6 {α : Type} {d : Kd α} {e base g : Nat} {ok : Nat → Prop} {w : World} {v : Value} {xs : List α} (h : Kd.S d e w base (fun k => ok k ∧ k ≠ g) v xs) (u0 u1 u2 u3 u4 u5 : Value) :
    Kd.S d e ((((((w.setCell ⟨g, 0, none⟩ u0).setCell ⟨g, 1, none⟩ u1).setCell ⟨g, 2, none⟩ u2).setCell ⟨g, 3, none⟩ u3).setCell ⟨g, 4, none⟩ u4).setCell ⟨g, 5, none⟩ u5) base (fun k => ok k ∧ k ≠ g) v xs :=
  Kd.S_far (Kd.S_far (Kd.S_far (Kd.S_far (Kd.S_far (Kd.S_far h (fun _ hk => hk.2) _) (fun _ hk => hk.2) _) (fun _ hk => hk.2) _) (fun _ hk => hk.2) _) (fun _ hk => hk.2) _) (fun _ hk => hk.2) _
def apply_Already.e (k : Nat) (l0 : List ByteArray) (x5 : List S41) : Option Bool :=
  (apply_Apply.f k l0 x5 0).bind fun z => if z.2.1.length ≤ 9223372036854775807 then some (z.2.2.2.isNone && (z.2.2.1.length == 0) && !decide (0 ≤ findOff z.2.1 0)) else none
def apply_Already.l0 : Nat → List ByteArray → List S41 → List S41 → Int → Option Bool
  | 0, _, _, _, _ => none
  | k + 1, l0, l1, x5, x17 => if x17 < (l1.length : Int) then (if 0 ≤ x17 then (hunks_Reverse.f (rd_T41 l1 x17).f0 (rd_T41 l1 x17).f1 (rd_T41 l1 x17).f2 (rd_T41 l1 x17).f3 (rd_T41 l1 x17).f4 (rd_T41 l1 x17).f5).bind fun bt => if x5.length < 1954687338268 then apply_Already.l0 k l0 l1 (x5 ++ [⟨bt.1, bt.2.1, bt.2.2.1, bt.2.2.2.1, bt.2.2.2.2.1, bt.2.2.2.2.2⟩]) (wrap64 (x17 + 1)) else none else none)
    else apply_Already.e k l0 x5
def apply_Already.f (k : Nat) (l0 : List ByteArray) (l1 : List S41) : Option Bool := if (l1.length : Int) = 0 then some false else apply_Already.l0 k l0 l1 [] 0
theorem apply_Already.emono (k : Nat) (l0 : List ByteArray) (x5 : List S41) : LeO (apply_Already.e k l0 x5) (apply_Already.e (k + 1) l0 x5) := LeO.bind (apply_Apply.mono _ _ _ _) fun _ => LeO.refl _
theorem apply_Already.lmono : ∀ (k : Nat) (l0 : List ByteArray) (l1 x5 : List S41) (x17 : Int), LeO (apply_Already.l0 k l0 l1 x5 x17) (apply_Already.l0 (k + 1) l0 l1 x5 x17)
  | 0, _, _, _, _ => LeO.none _
  | k + 1, l0, l1, x5, x17 => by
    rw [apply_Already.l0, apply_Already.l0]
    exact LeO.ite (LeO.ite (LeO.bind (LeO.refl _) fun _ => LeO.ite (apply_Already.lmono k _ _ _ _) (LeO.refl _)) (LeO.refl _)) (apply_Already.emono _ _ _)
theorem apply_Already.mono : ∀ a0 a1 k, LeO (apply_Already.f k a0 a1) (apply_Already.f (k + 1) a0 a1) := fun _ _ _ => LeO.ite (LeO.refl _) (apply_Already.lmono _ _ _ _ _)
set_option maxHeartbeats 16000000 in
set_option maxRecDepth 100000 in
theorem apply_Already.calls (k : Nat) (A0 : Option Addr) (c0 : Nat) (l0 : List ByteArray) (A1 : Option Addr) (c1 : Nat) (l1 : List S41) (r : Bool) (w : World) (hr0 : Kd.C Kd.string w A0 l0.length l0) (hc0 : l0.length ≤ c0) (hr1 : Kd.C k41 w A1 l1.length l1) (hc1 : l1.length ≤ c1) (h : apply_Already.f k l0 l1 = some r) :
    Calls Try.prog 14 #[.slice A0 l0.length c0, .slice A1 l1.length c1] w fun e w' => e = .returned (.bool r) ∧ Below w.heap.size w w' := by
  have hu41 := Try.underlying41
  have HR0 := Aside0.mk hr0
  have HC0 := Aside0.mk hc0
  have HR1 := Aside0.mk hr1
  have HC1 := Aside0.mk hc1
  clear hr0 hc0 hr1 hc1
  have HB := Aside0.mk (Below.refl w.heap.size w)
  have H := h
  clear h
  unfold apply_Already.f at H
  replace H := itE H
  rcases H with ⟨-, c0b0, c0b1, H⟩ | ⟨-, c0b0, c0b1, H⟩
  · obtain rfl := Option.some.inj H
    go_enter Try.func14, Try.ntmps14
    go_wp2
    go_ret
    exact ⟨eqEnd, belNow⟩
  have H' := Aside0.mk H
  clear H
  go_enter Try.func14, Try.ntmps14
  go_wp2
  go_loopg [5, 17] k (fun kq v5 v17 w' => ∃ (x5_1 : List S41) (x17_1 : Int), v17 = .int .i64 x17_1 ∧ Aside0 (apply_Already.l0 kq l0 l1 x5_1 x17_1 = some r) ∧ Aside0 (kq ≤ k) ∧ Aside0 (Kd.S k41 41 w' w.heap.size (fun _ => True) v5 x5_1) ∧ Aside0 (Below w.heap.size w w'))
  case atStart => exact ⟨[], 0, eqNow, H', ⟨Nat.le_refl _⟩, ⟨kNil⟩, ⟨belNow⟩⟩
  case round =>
    clear H'
    obtain ⟨x5_1, x17_1, rfl, HA, HK1, HO_5, HB⟩ := hrel
    cases gk with
    | zero => exact absurd HA.out (by simp [apply_Already.l0])
    | succ k1 =>
      have H := HA.out
      clear HA
      simp only [apply_Already.l0] at H
      replace H := itL H
      rcases H with ⟨-, c3b0, H⟩ | ⟨-, c3b0, H⟩
      · replace H := itLn H
        rcases H with ⟨_, _, H⟩ | ⟨-, c4b0, H⟩
        · cases H
        replace H := bdS H
        obtain ⟨⟨t1, t2, t3, t4, t5, t6⟩, A5, H⟩ := H
        replace H : (if x5_1.length < 1954687338268 then (apply_Already.l0 k1 l0 l1 (x5_1 ++ [(⟨t1, t2, t3, t4, t5, t6⟩ : S41)]) (wrap64 (x17_1 + 1))) else (none)) = some r := H
        replace H := itLn H
        rcases H with ⟨_, _, H⟩ | ⟨c6, -, H⟩
        · cases H
        have LMc6 := Aside0.mk c6
        clear c6
        obtain ⟨y1, hy1⟩ : ∃ y_ : List S41, y_ = (x5_1 ++ [(⟨t1, t2, t3, t4, t5, t6⟩ : S41)]) := ⟨_, rfl⟩
        rw [← hy1] at H
        have Ny1 := Aside0.mk hy1
        clear hy1
        have H' := Aside0.mk H
        clear H
        obtain ⟨ad1, Ar, cr, rfl, hx0, hx1, hx2, hx3, hx4, hx5, HC5, HR5, p1, q1⟩ := atU_T41 HR1 HB x17_1
        go_wp2_with (first | ((with_reducible refine gate_dst (N := 7) rfl ?_); refine boxEv (N := 7) #[.int .i64 0, .int .i64 0, .int .i64 0, .int .i64 0, .string (⟨#[]⟩ : ByteArray), .slice none 0 0] 41 ?_; intro gb hg wx hbox hb; replace HO_5 := Aside0.mk (Kd.S_below (Kd.S_elderB (by (with_reducible repeat (first | apply Kd.S_alloc | apply Kd.S_drewN | apply Kd.S_drew)); exact HO_5.out) gb (Nat.le_of_eq hg.symm)) hb); have BK := Aside0.mk hbox; have GW := gwN HB hg; replace HB := hbD HB hb; clear hb hbox hg; obtain ⟨cz0, cz1, cz2, cz3, cz4, cz5, fz0, fz1, fz2, fz3, fz4, fz5⟩ := bcf6 (W := wx) BK) | (go_at_call 31; (with_reducible refine (hunks_Reverse.calls ((rd_T41 l1 x17_1).f0) ((rd_T41 l1 x17_1).f1) ((rd_T41 l1 x17_1).f2) ((rd_T41 l1 x17_1).f3) ((rd_T41 l1 x17_1).f4) _ _ ((rd_T41 l1 x17_1).f5) t1 t2 t3 t4 t5 t6 _ ?side1 ?side2 A5.out).mono ?_); (case side1 => exact Kd.C_below HR5.out (belPut)); (case side2 => exact HC5.out); rintro e w7 ⟨v471, rfl, ho0, hb⟩; replace HO_5 := Aside0.mk (Kd.S_elder' (S_far6 HO_5.out _ _ _ _ _ _) (Kd.R_base ho0) hb); have HO1 := Aside0.mk (Kd.R_lower ho0 (below_size belPut)); replace HB := hbD HB hb; clear hb ho0 cz0 cz1 cz2 cz3 cz4 cz5 fz0 fz1 fz2 fz3 fz4 fz5 BK GW; obtain ⟨Ao9, co9, eo9⟩ := Kd.R_slice HO1.out; subst eo9) | ((with_reducible refine gate_builtin (b := .append) (xs := #[.tmp 21, .tmp 24]) rfl ?_); (try (refine gate_guard (by rfl) ?_; dsimp only)); at_builtin; refine Kd.S_append k41 (w0 := w) w.heap.size rfl (.tmp 21) (.tmp 24) 26 41 (.agg #[(.int .i64 0), (.int .i64 0), (.int .i64 0), (.int .i64 0), (.string ⟨#[]⟩), (.slice none 0 0)]) 72 rfl Try.underlying26 info41 rfl (by decide) (by omega) u5 x5_1 (⟨t1, t2, t3, t4, t5, t6⟩ : S41) [.int .i64 t1, .int .i64 t2, .int .i64 t3, .int .i64 t4, .string t5, .slice Ao9 t6.length co9] (fun _ => True) (fun k_ => some k_ = (.slice Ao9 t6.length co9 : Value).ownBlock) rfl rfl ?aP (fun k_ hk_ => ((Kd.R_mono (ok' := fun k_ => ((fun _ => True)) k_ ∧ some k_ ≠ (u5 : Value).ownBlock) (Kd.R_apart' (HO1.out) (Kd.S_typed HO_5.out) (by decide)) (fun k_ hk => ⟨trivial, hk.2⟩))).1 k_ hk_.symm) ?aF ?aO ?aB ?aS ?aL ?_; (case aP => exact k41_mkM _ _ _ (⟨t1, t2, t3, t4, t5, t6⟩ : S41) (Kd.R_mono (Kd.R_tight rfl (Kd.R_mono (ok' := fun k_ => ((fun _ => True)) k_ ∧ some k_ ≠ (u5 : Value).ownBlock) (Kd.R_apart' (HO1.out) (Kd.S_typed HO_5.out) (by decide)) (fun k_ hk => ⟨trivial, hk.2⟩))) (fun _ h_ => h_))); (case aB => exact belNow); (case aF => exact (fun _ _ => trivial)); (case aO => exact (by (with_reducible repeat (first | apply Kd.S_alloc | apply Kd.S_drewN | apply Kd.S_drew)); exact Kd.S_mono HO_5.out (fun k_ hk => ⟨trivial, fun e_ => hk.2 e_⟩))); (case aS => exact (below_size belNow)); (case aL => have := LMc6.out; omega); intro v474 w8 ho hb hg hat; rw [← Ny1.out] at ho; replace HB := Aside0.mk hb; have HO2 := Aside0.mk (ho); clear HO_5 HO1; clear ho hb hg hat))
        go_roundg k1
        case measure => have := HK1.out; omega
        case rel => exact ⟨y1, (wrap64 (x17_1 + 1)), eqNow, H', ⟨by have := HK1.out; omega⟩, ⟨kdMv HO2⟩, ⟨belNow⟩⟩
      replace H := bdS H
      obtain ⟨⟨z1, z2, z3, z4⟩, AZ, H⟩ := H
      replace H : (if z2.length ≤ 9223372036854775807 then some (z4.isNone && (z3.length == 0) && !decide (0 ≤ findOff z2 0)) else none) = some r := H
      replace H := itL H
      rcases H with ⟨c7, -, H⟩ | ⟨-, _, H⟩
      rotate_left
      · cases H
      have HLEN := Aside0.mk c7
      clear c7
      replace H := Option.some.inj H
      obtain ⟨Ao11, co11, eo11⟩ := Kd.S_slice HO_5.out
      subst eo11
      have HE := Aside0.mk H
      clear H
      have hcall : True := trivial
      cases z4 with
      | some x =>
        have hr : r = false := HE.out.symm
        subst hr
        go_wp2_with (go_at_call 9; (with_reducible refine (apply_Apply.calls k1 _ _ l0 _ _ x5_1 0 z1 z2 z3 (some x) _ ?side1 ?side2 ?side3 ?side4 AZ.out).mono ?_); (case side1 => exact kcU HR0 HB); (case side2 => exact HC0.out); (case side3 => repeat (first | exact (Kd.S_reads' HO_5.out).2.2 | (with_reducible refine Kd.C_alloc ?_ _) | (with_reducible refine Kd.C_drewN ?_ _) | (with_reducible refine Kd.C_drew ?_))); (case side4 => exact (Kd.S_reads' HO_5.out).2.1); rintro e w12 ⟨v1_, v2_, v3_, rfl, ho0, ho1, ho2, hb⟩; replace HB := hbD HB hb; have HH := Aside0.mk ho1; have HJ := Aside0.mk ho2; clear hb ho0 ho1 ho2 HO_5; obtain ⟨Ah, ch, eh⟩ := Kd.R_slice HH.out; subst eh; obtain ⟨Aj, cj, ej⟩ := Kd.R_slice HJ.out; subst ej; simp only [errW_some])
        go_ret
        exact ⟨eqEnd, belNow⟩
      | none =>
        by_cases hz3 : z3.length = 0
        · have hr : r = !decide (0 ≤ findOff z2 0) := by have := HE.out; simp only [hz3] at this; exact this.symm
          subst hr
          have z3b : ((z3.length : Int) == 0) = true := beq_iff_eq.mpr (by omega)
          go_wp2_with (first | (go_at_call 9; (with_reducible refine (apply_Apply.calls k1 _ _ l0 _ _ x5_1 0 z1 z2 z3 none _ ?side1 ?side2 ?side3 ?side4 AZ.out).mono ?_); (case side1 => exact kcU HR0 HB); (case side2 => exact HC0.out); (case side3 => repeat (first | exact (Kd.S_reads' HO_5.out).2.2 | (with_reducible refine Kd.C_alloc ?_ _) | (with_reducible refine Kd.C_drewN ?_ _) | (with_reducible refine Kd.C_drew ?_))); (case side4 => exact (Kd.S_reads' HO_5.out).2.1); rintro e w12 ⟨v1_, v2_, v3_, rfl, ho0, ho1, ho2, hb⟩; replace HB := hbD HB hb; have HH := Aside0.mk ho1; have HJ := Aside0.mk ho2; clear hb ho0 ho1 ho2 HO_5; obtain ⟨Ah, ch, eh⟩ := Kd.R_slice HH.out; subst eh; obtain ⟨Aj, cj, ej⟩ := Kd.R_slice HJ.out; subst ej; simp only [errW_none]) | ((with_reducible refine gate_callee (f := 32) rfl ?_); (try (refine gate_guard (by rfl) ?_; dsimp only)); refine goL (some 44) Try.func32 #[.slice Ah z2.length ch, .func (.func 33) #[] #[]] ?_; (with_reducible refine (containsOff.calls _ _ z2 (findOff z2 0) _ ?s1 HLEN.out rfl).mono ?_); (case s1 => repeat (first | exact (Kd.R_reads' HH.out).2.2 | (with_reducible refine Kd.C_alloc ?_ _) | (with_reducible refine Kd.C_drewN ?_ _) | (with_reducible refine Kd.C_drew ?_))); rintro e w13 ⟨rfl, hb⟩; refine ⟨_, rfl, ?_⟩; replace HB := hbD HB hb; clear hb))
          go_ret
          exact ⟨eqEnd, belNow⟩
        · have hr : r = false := by have := HE.out; rw [show (z3.length == 0) = false from beq_eq_false_iff_ne.mpr hz3] at this; exact this.symm
          subst hr
          have z3b : ((z3.length : Int) == 0) = false := beq_eq_false_iff_ne.mpr (by omega)
          go_wp2_with (go_at_call 9; (with_reducible refine (apply_Apply.calls k1 _ _ l0 _ _ x5_1 0 z1 z2 z3 none _ ?side1 ?side2 ?side3 ?side4 AZ.out).mono ?_); (case side1 => exact kcU HR0 HB); (case side2 => exact HC0.out); (case side3 => repeat (first | exact (Kd.S_reads' HO_5.out).2.2 | (with_reducible refine Kd.C_alloc ?_ _) | (with_reducible refine Kd.C_drewN ?_ _) | (with_reducible refine Kd.C_drew ?_))); (case side4 => exact (Kd.S_reads' HO_5.out).2.1); rintro e w12 ⟨v1_, v2_, v3_, rfl, ho0, ho1, ho2, hb⟩; replace HB := hbD HB hb; have HH := Aside0.mk ho1; have HJ := Aside0.mk ho2; clear hb ho0 ho1 ho2 HO_5; obtain ⟨Ah, ch, eh⟩ := Kd.R_slice HH.out; subst eh; obtain ⟨Aj, cj, ej⟩ := Kd.R_slice HJ.out; subst ej; simp only [errW_none])
          go_ret
          exact ⟨eqEnd, belNow⟩
end Go.Proofs.Ytkoagpnoaibdjaa.Ext
