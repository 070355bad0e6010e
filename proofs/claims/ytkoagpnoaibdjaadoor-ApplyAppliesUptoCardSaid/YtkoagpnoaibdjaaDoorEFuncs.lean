/-
  slices.IndexFunc and ContainsFunc with the functions that package apply hands them; walked by hand.
-/
import Derived.Test.YtkoagpnoaibdjaaDoorPp4
import Derived.Test.YtkoagpnoaibdjaaDoorEPure
import Derived.Test.YtkoagpnoaibdjaaDoorESides
namespace Go.Proofs.YtkoagpnoaibdjaaDoor.Ext
open Go.RowKit Go.Proofs.YtkoagpnoaibdjaaDoor.Pp Go.Proofs.YtkoagpnoaibdjaaDoorW.PrintWords Go.Proofs.YtkoagpnoaibdjaaDoorW.PrintLast Go.Proofs.YtkoagpnoaibdjaaDoorW.PrintMore
set_option linter.unusedVariables false
set_option linter.unusedSimpArgs false
abbrev agH (A5 : Option Addr) (c5 : Nat) (h : S44) : Value := .agg #[.int .i64 h.f0, .int .i64 h.f1, .int .i64 h.f2, .int .i64 h.f3, .string h.f4, .slice A5 h.f5.length c5]
def validF (h : S44) : Option (Option Int) := hunks_Valid.f h.f0 h.f1 h.f2 h.f3 h.f4 h.f5
def findBad : List S44 → Nat → Option Int
  | [], _ => some (-1)
  | h :: t, i => (validF h).bind fun e => if e.isSome = true then some (i : Int) else findBad t (i + 1)
set_option maxHeartbeats 4000000 in
set_option maxRecDepth 100000 in
theorem bad.calls (A5 : Option Addr) (c5 : Nat) (h : S44) (r : Option Int) (w : World) (hr : Kd.C k61 w A5 h.f5.length h.f5) (hc : h.f5.length ≤ c5) (hv : validF h = some r) :
    Calls Tryd.prog 14 #[agH A5 c5 h] w fun e w' => e = .returned (.bool r.isSome) ∧ Below w.heap.size w w' := by
  have HR := Aside0.mk hr
  have HC := Aside0.mk hc
  have HV := Aside0.mk hv
  clear hr hc hv
  cases r with
  | none =>
    go_enter Tryd.func14, Tryd.ntmps14
    go_wp2_with (go_at_call 15; (with_reducible refine (hunks_Valid.calls h.f0 h.f1 h.f2 h.f3 h.f4 A5 c5 h.f5 none _ ?s1 ?s2 ?s3).mono ?_); (case s1 => exact Kd.C_alloc HR.out _); (case s2 => exact HC.out); (case s3 => exact HV.out); rintro e w' ⟨rfl, hb⟩; have HB := Aside0.mk hb; clear hb; simp only [errW_none])
    go_ret
    exact ⟨rfl, below_step (below_alloc (Below.refl _ _) _) HB.out⟩
  | some x =>
    go_enter Tryd.func14, Tryd.ntmps14
    go_wp2_with (go_at_call 15; (with_reducible refine (hunks_Valid.calls h.f0 h.f1 h.f2 h.f3 h.f4 A5 c5 h.f5 (some x) _ ?s1 ?s2 ?s3).mono ?_); (case s1 => exact Kd.C_alloc HR.out _); (case s2 => exact HC.out); (case s3 => exact HV.out); rintro e w' ⟨rfl, hb⟩; have HB := Aside0.mk hb; clear hb; simp only [errW_some])
    go_ret
    exact ⟨rfl, below_step (below_alloc (Below.refl _ _) _) HB.out⟩
set_option maxHeartbeats 4000000 in
set_option maxRecDepth 100000 in
theorem indexBad.calls (A0 : Option Addr) (c0 : Nat) (l0 : List S44) (r : Int) (w : World) (hr0 : Kd.C k44 w A0 l0.length l0) (hlen : l0.length ≤ 9223372036854775807) (h : findBad l0 0 = some r) :
    Calls Tryd.prog 29 #[.slice A0 l0.length c0, .func (.func 14) #[] #[]] w fun e w' => e = .returned (.int .i64 r) ∧ Below w.heap.size w w' := by
  have HR := Aside0.mk hr0
  have H0 := Aside0.mk h
  clear hr0 h
  go_enter Tryd.func29, Tryd.ntmps29
  go_wp2
  go_loopg [5, 8] (l0.length + 1) (fun kq v5 v8 w' => ∃ (i : Nat), v8 = .int .i64 (i : Int) ∧ Aside0 (i + kq = l0.length + 1 ∧ i ≤ l0.length) ∧ Aside0 (findBad (l0.drop i) i = some r) ∧ Aside0 (Below w.heap.size w w'))
  case atStart => exact ⟨0, rfl, ⟨by omega⟩, H0, ⟨Below.refl _ _⟩⟩
  case round =>
    clear H0
    obtain ⟨i, rfl, HK, H, HB⟩ := hrel
    by_cases hi : i < l0.length
    · have p1 : 0 ≤ (i : Int) := by omega
      have q1 : (i : Int) < (l0.length : Int) := by omega
      have H1 := H.out
      rw [dropS l0 z44 i hi] at H1
      simp only [findBad] at H1
      have hrd : l0.getD i z44 = rd_T44 l0 (i : Int) := rfl
      rw [hrd] at H1
      obtain ⟨ad, A5, c5, e1, hx0, hx1, hx2, hx3, hx4, hx5, hc5, hr5⟩ := at_T44 (Kd.C_below HR.out HB.out) (i : Int) p1 q1
      cases e1
      simp only [Int.toNat_natCast] at hx0 hx1 hx2 hx3 hx4 hx5
      have z1 : decide ((i : Int) < (l0.length : Int)) = true := decide_eq_true q1
      generalize rd_T44 l0 (i : Int) = g at H1 hx0 hx1 hx2 hx3 hx4 hx5 hc5 hr5
      clear hrd H
      obtain ⟨x, hv, H2⟩ := Option.bind_eq_some_iff.mp H1
      have HV := Aside0.mk hv
      have HC5 := Aside0.mk hc5
      have HR5 := Aside0.mk hr5
      clear hv H1 hc5 hr5
      have hw : wrap64 ((i : Int) + 1) = ((i + 1 : Nat) : Int) := by rw [Pure.w64' (by omega) (by omega)]; omega
      have HW := Aside0.mk hw
      clear hw
      cases x with
      | some y =>
        rw [if_pos (show (some y).isSome = true from rfl)] at H2
        obtain rfl := Option.some.inj H2
        go_wp2_with (go_at_call 14; (with_reducible refine (bad.calls A5 c5 g (some y) _ ?s1 ?s2 ?s3).mono ?_); (case s1 => exact HR5.out); (case s2 => exact HC5.out); (case s3 => exact HV.out); rintro e w' ⟨rfl, hb⟩; have HB2 := Aside0.mk (below_step HB.out hb); clear hb; simp only [Option.isSome])
        go_ret
        exact ⟨rfl, HB2.out⟩
      | none =>
        rw [if_neg (by simp)] at H2
        go_wp2_with (go_at_call 14; (with_reducible refine (bad.calls A5 c5 g none _ ?s1 ?s2 ?s3).mono ?_); (case s1 => exact HR5.out); (case s2 => exact HC5.out); (case s3 => exact HV.out); rintro e w' ⟨rfl, hb⟩; have HB2 := Aside0.mk (below_step HB.out hb); clear hb; simp only [Option.isSome])
        go_roundg (gk - 1)
        case measure => have := HK.out; omega
        case rel => exact ⟨i + 1, (by first | (rw [HW.out]; done) | go_num | (simp; done)), ⟨by have := HK.out; omega⟩, ⟨H2⟩, HB2⟩
    · have hd : l0.drop i = [] := List.drop_of_length_le (by omega)
      have h1 := H.out
      rw [hd] at h1
      simp only [findBad, Option.some.injEq] at h1
      obtain rfl := h1
      have z1 : decide ((i : Int) < (l0.length : Int)) = false := decide_eq_false (by omega)
      go_wp2
      go_ret
      exact ⟨rfl, HB.out⟩
set_option maxHeartbeats 4000000 in
set_option maxRecDepth 100000 in
theorem containsBad.calls (A0 : Option Addr) (c0 : Nat) (l0 : List S44) (r : Int) (w : World) (hr0 : Kd.C k44 w A0 l0.length l0) (hlen : l0.length ≤ 9223372036854775807) (h : findBad l0 0 = some r) :
    Calls Tryd.prog 13 #[.slice A0 l0.length c0, .func (.func 14) #[] #[]] w fun e w' => e = .returned (.bool (decide (0 ≤ r))) ∧ Below w.heap.size w w' := by
  go_enter Tryd.func13, Tryd.ntmps13
  go_wp2_with (go_at_call 29; (with_reducible refine (indexBad.calls A0 c0 l0 r _ hr0 hlen h).mono ?_); rintro e w' ⟨rfl, hb⟩; have HB2 := Aside0.mk hb; clear hb)
  go_ret
  exact ⟨rfl, HB2.out⟩
def findCh : List S61 → Nat → Int
  | [], _ => -1
  | r :: t, i => if r.f0 = 1 then findCh t (i + 1) else (i : Int)
set_option maxHeartbeats 4000000 in
set_option maxRecDepth 100000 in
theorem isCh.calls (a0 : Int) (a1 : ByteArray) (w : World) :
    Calls Tryd.prog 38 #[.agg #[.int .i64 a0, .string a1]] w fun e w' => e = .returned (.bool (a0 != 1)) ∧ Below w.heap.size w w' := by
  go_enter Tryd.func38, Tryd.ntmps38
  go_wp2
  go_ret
  exact ⟨rfl, below_alloc (Below.refl _ _) _⟩
set_option maxHeartbeats 4000000 in
set_option maxRecDepth 100000 in
theorem indexCh.calls (A0 : Option Addr) (c0 : Nat) (l0 : List S61) (r : Int) (w : World) (hr0 : Kd.C k61 w A0 l0.length l0) (hlen : l0.length ≤ 9223372036854775807) (h : findCh l0 0 = r) :
    Calls Tryd.prog 37 #[.slice A0 l0.length c0, .func (.func 38) #[] #[]] w fun e w' => e = .returned (.int .i64 r) ∧ Below w.heap.size w w' := by
  have HR := Aside0.mk hr0
  have H0 := Aside0.mk h
  clear hr0 h
  go_enter Tryd.func37, Tryd.ntmps37
  go_wp2
  go_loopg [5, 8] (l0.length + 1) (fun kq v5 v8 w' => ∃ (i : Nat), v8 = .int .i64 (i : Int) ∧ Aside0 (i + kq = l0.length + 1 ∧ i ≤ l0.length) ∧ Aside0 (findCh (l0.drop i) i = r) ∧ Aside0 (Below w.heap.size w w'))
  case atStart => exact ⟨0, rfl, ⟨by omega⟩, H0, ⟨Below.refl _ _⟩⟩
  case round =>
    clear H0
    obtain ⟨i, rfl, HK, H, HB⟩ := hrel
    by_cases hi : i < l0.length
    · have p1 : 0 ≤ (i : Int) := by omega
      have q1 : (i : Int) < (l0.length : Int) := by omega
      have H1 := H.out
      rw [dropS l0 z61 i hi] at H1
      simp only [findCh] at H1
      have hrd : l0.getD i z61 = rd_T61 l0 (i : Int) := rfl
      rw [hrd] at H1
      obtain ⟨ad, e1, hx0, hx1⟩ := at_T61 (Kd.C_below HR.out HB.out) (i : Int) p1 q1
      cases e1
      simp only [Int.toNat_natCast] at hx0 hx1
      have z1 : decide ((i : Int) < (l0.length : Int)) = true := decide_eq_true q1
      generalize rd_T61 l0 (i : Int) = g at H1 hx0 hx1
      clear hrd H
      have HW : Aside0 (wrap64 ((i : Int) + 1) = ((i + 1 : Nat) : Int)) := ⟨by rw [Pure.w64' (by omega) (by omega)]; omega⟩
      by_cases hk : g.f0 = 1
      · rw [if_pos hk] at H1
        have H2 := Aside0.mk H1
        have z2 : (g.f0 != 1) = false := bne_eq_false_iff_eq.mpr hk
        clear H1 hk
        go_wp2_with (go_at_call 38; (with_reducible refine (isCh.calls g.f0 g.f1 _).mono ?_); rintro e w' ⟨rfl, hb⟩; have HB2 := Aside0.mk (below_step HB.out hb); clear hb)
        go_roundg (gk - 1)
        case measure => have := HK.out; omega
        case rel => exact ⟨i + 1, (by first | (rw [HW.out]; done) | go_num | (simp; done)), ⟨by have := HK.out; omega⟩, H2, HB2⟩
      · rw [if_neg hk] at H1
        obtain rfl := H1
        have z2 : (g.f0 != 1) = true := bne_iff_ne.mpr hk
        clear hk
        go_wp2_with (go_at_call 38; (with_reducible refine (isCh.calls g.f0 g.f1 _).mono ?_); rintro e w' ⟨rfl, hb⟩; have HB2 := Aside0.mk (below_step HB.out hb); clear hb)
        go_ret
        exact ⟨rfl, HB2.out⟩
    · have hd : l0.drop i = [] := List.drop_of_length_le (by omega)
      have h1 := H.out
      rw [hd] at h1
      simp only [findCh] at h1
      obtain rfl := h1
      have z1 : decide ((i : Int) < (l0.length : Int)) = false := decide_eq_false (by omega)
      clear H
      go_wp2
      go_ret
      exact ⟨rfl, HB.out⟩
end Go.Proofs.YtkoagpnoaibdjaaDoor.Ext
