/-
  slices.IndexFunc and ContainsFunc with the functions that package apply hands them; walked by hand.
-/
import Derived.Test.YtkoagpnoaibdjaaPp6
import Derived.Test.YtkoagpnoaibdjaaEPure
import Derived.Test.YtkoagpnoaibdjaaESides
namespace Go.Proofs.Ytkoagpnoaibdjaa.Ext
open Go.RowKit Go.Proofs.Ytkoagpnoaibdjaa.Pp Go.Proofs.YtkoagpnoaibdjaaW.PrintWords Go.Proofs.YtkoagpnoaibdjaaW.PrintLast Go.Proofs.YtkoagpnoaibdjaaW.PrintMore
set_option linter.unusedVariables false
set_option linter.unusedSimpArgs false
abbrev agH (A5 : Option Addr) (c5 : Nat) (h : S41) : Value := .agg #[.int .i64 h.f0, .int .i64 h.f1, .int .i64 h.f2, .int .i64 h.f3, .string h.f4, .slice A5 h.f5.length c5]
def validF (h : S41) : Option (Option Int) := hunks_Valid.f h.f0 h.f1 h.f2 h.f3 h.f4 h.f5
def findBad : List S41 → Nat → Option Int
  | [], _ => some (-1)
  | h :: t, i => (validF h).bind fun e => if e.isSome = true then some (i : Int) else findBad t (i + 1)
set_option maxHeartbeats 4000000 in
set_option maxRecDepth 100000 in
theorem bad.calls (A5 : Option Addr) (c5 : Nat) (h : S41) (r : Option Int) (w : World) (hr : Kd.C k72 w A5 h.f5.length h.f5) (hc : h.f5.length ≤ c5) (hv : validF h = some r) :
    Calls Try.prog 25 #[agH A5 c5 h] w fun e w' => e = .returned (.bool r.isSome) ∧ Below w.heap.size w w' := by
  have HR := Aside0.mk hr
  have HC := Aside0.mk hc
  have HV := Aside0.mk hv
  clear hr hc hv
  cases r with
  | none =>
    go_enter Try.func25, Try.ntmps25
    go_wp2_with (go_at_call 26; (with_reducible refine (hunks_Valid.calls h.f0 h.f1 h.f2 h.f3 h.f4 A5 c5 h.f5 none _ ?s1 ?s2 ?s3).mono ?_); (case s1 => exact Kd.C_alloc HR.out _); (case s2 => exact HC.out); (case s3 => exact HV.out); rintro e w' ⟨rfl, hb⟩; have HB := Aside0.mk hb; clear hb; simp only [errW_none])
    go_ret
    exact ⟨rfl, below_step (below_alloc (Below.refl _ _) _) HB.out⟩
  | some x =>
    go_enter Try.func25, Try.ntmps25
    go_wp2_with (go_at_call 26; (with_reducible refine (hunks_Valid.calls h.f0 h.f1 h.f2 h.f3 h.f4 A5 c5 h.f5 (some x) _ ?s1 ?s2 ?s3).mono ?_); (case s1 => exact Kd.C_alloc HR.out _); (case s2 => exact HC.out); (case s3 => exact HV.out); rintro e w' ⟨rfl, hb⟩; have HB := Aside0.mk hb; clear hb; simp only [errW_some])
    go_ret
    exact ⟨rfl, below_step (below_alloc (Below.refl _ _) _) HB.out⟩
set_option maxHeartbeats 4000000 in
set_option maxRecDepth 100000 in
theorem indexBad.calls (A0 : Option Addr) (c0 : Nat) (l0 : List S41) (r : Int) (w : World) (hr0 : Kd.C k41 w A0 l0.length l0) (hlen : l0.length ≤ 9223372036854775807) (h : findBad l0 0 = some r) :
    Calls Try.prog 46 #[.slice A0 l0.length c0, .func (.func 25) #[] #[]] w fun e w' => e = .returned (.int .i64 r) ∧ Below w.heap.size w w' := by
  have HR := Aside0.mk hr0
  have H0 := Aside0.mk h
  clear hr0 h
  go_enter Try.func46, Try.ntmps46
  go_wp2
  go_loopg [5, 8] (l0.length + 1) (fun kq v5 v8 w' => ∃ (i : Nat), v8 = .int .i64 (i : Int) ∧ Aside0 (i + kq = l0.length + 1 ∧ i ≤ l0.length) ∧ Aside0 (findBad (l0.drop i) i = some r) ∧ Aside0 (Below w.heap.size w w'))
  case atStart => exact ⟨0, rfl, ⟨by omega⟩, H0, ⟨Below.refl _ _⟩⟩
  case round =>
    clear H0
    obtain ⟨i, rfl, HK, H, HB⟩ := hrel
    by_cases hi : i < l0.length
    · have p1 : 0 ≤ (i : Int) := by omega
      have q1 : (i : Int) < (l0.length : Int) := by omega
      have H1 := H.out
      rw [dropS l0 z41 i hi] at H1
      simp only [findBad] at H1
      have hrd : l0.getD i z41 = rd_T41 l0 (i : Int) := rfl
      rw [hrd] at H1
      obtain ⟨ad, A5, c5, e1, hx0, hx1, hx2, hx3, hx4, hx5, hc5, hr5⟩ := at_T41 (Kd.C_below HR.out HB.out) (i : Int) p1 q1
      cases e1
      simp only [Int.toNat_natCast] at hx0 hx1 hx2 hx3 hx4 hx5
      have z1 : decide ((i : Int) < (l0.length : Int)) = true := decide_eq_true q1
      generalize rd_T41 l0 (i : Int) = g at H1 hx0 hx1 hx2 hx3 hx4 hx5 hc5 hr5
      clear hrd H
      obtain ⟨x, hv, H2⟩ := Option.bind_eq_some_iff.mp H1
      have HV := Aside0.mk hv
      have HC5 := Aside0.mk hc5
      have HR5 := Aside0.mk hr5
      clear hv H1 hc5 hr5
      have hw : wrap64 ((i : Int) + 1) = ((i + 1 : Nat) : Int) := by rw [Pure.w64' (by omega) (by omega)]; omega
      have HW := Aside0.mk hw
      clear hw
      cases x with
      | some y =>
        rw [if_pos (show (some y).isSome = true from rfl)] at H2
        obtain rfl := Option.some.inj H2
        go_wp2_with (go_at_call 25; (with_reducible refine (bad.calls A5 c5 g (some y) _ ?s1 ?s2 ?s3).mono ?_); (case s1 => exact HR5.out); (case s2 => exact HC5.out); (case s3 => exact HV.out); rintro e w' ⟨rfl, hb⟩; have HB2 := Aside0.mk (below_step HB.out hb); clear hb; simp only [Option.isSome])
        go_ret
        exact ⟨rfl, HB2.out⟩
      | none =>
        rw [if_neg (by simp)] at H2
        go_wp2_with (go_at_call 25; (with_reducible refine (bad.calls A5 c5 g none _ ?s1 ?s2 ?s3).mono ?_); (case s1 => exact HR5.out); (case s2 => exact HC5.out); (case s3 => exact HV.out); rintro e w' ⟨rfl, hb⟩; have HB2 := Aside0.mk (below_step HB.out hb); clear hb; simp only [Option.isSome])
        go_roundg (gk - 1)
        case measure => have := HK.out; omega
        case rel => exact ⟨i + 1, (by first | (rw [HW.out]; done) | go_num | (simp; done)), ⟨by have := HK.out; omega⟩, ⟨H2⟩, HB2⟩
    · have hd : l0.drop i = [] := List.drop_of_length_le (by omega)
      have h1 := H.out
      rw [hd] at h1
      simp only [findBad, Option.some.injEq] at h1
      obtain rfl := h1
      have z1 : decide ((i : Int) < (l0.length : Int)) = false := decide_eq_false (by omega)
      go_wp2
      go_ret
      exact ⟨rfl, HB.out⟩
set_option maxHeartbeats 4000000 in
set_option maxRecDepth 100000 in
theorem containsBad.calls (A0 : Option Addr) (c0 : Nat) (l0 : List S41) (r : Int) (w : World) (hr0 : Kd.C k41 w A0 l0.length l0) (hlen : l0.length ≤ 9223372036854775807) (h : findBad l0 0 = some r) :
    Calls Try.prog 24 #[.slice A0 l0.length c0, .func (.func 25) #[] #[]] w fun e w' => e = .returned (.bool (decide (0 ≤ r))) ∧ Below w.heap.size w w' := by
  go_enter Try.func24, Try.ntmps24
  go_wp2_with (go_at_call 46; (with_reducible refine (indexBad.calls A0 c0 l0 r _ hr0 hlen h).mono ?_); rintro e w' ⟨rfl, hb⟩; have HB2 := Aside0.mk hb; clear hb)
  go_ret
  exact ⟨rfl, HB2.out⟩
def findCh : List S72 → Nat → Int
  | [], _ => -1
  | r :: t, i => if r.f0 = 1 then findCh t (i + 1) else (i : Int)
set_option maxHeartbeats 4000000 in
set_option maxRecDepth 100000 in
theorem isCh.calls (a0 : Int) (a1 : ByteArray) (w : World) :
    Calls Try.prog 51 #[.agg #[.int .i64 a0, .string a1]] w fun e w' => e = .returned (.bool (a0 != 1)) ∧ Below w.heap.size w w' := by
  go_enter Try.func51, Try.ntmps51
  go_wp2
  go_ret
  exact ⟨rfl, below_alloc (Below.refl _ _) _⟩
set_option maxHeartbeats 4000000 in
set_option maxRecDepth 100000 in
theorem indexCh.calls (A0 : Option Addr) (c0 : Nat) (l0 : List S72) (r : Int) (w : World) (hr0 : Kd.C k72 w A0 l0.length l0) (hlen : l0.length ≤ 9223372036854775807) (h : findCh l0 0 = r) :
    Calls Try.prog 50 #[.slice A0 l0.length c0, .func (.func 51) #[] #[]] w fun e w' => e = .returned (.int .i64 r) ∧ Below w.heap.size w w' := by
  have HR := Aside0.mk hr0
  have H0 := Aside0.mk h
  clear hr0 h
  go_enter Try.func50, Try.ntmps50
  go_wp2
  go_loopg [5, 8] (l0.length + 1) (fun kq v5 v8 w' => ∃ (i : Nat), v8 = .int .i64 (i : Int) ∧ Aside0 (i + kq = l0.length + 1 ∧ i ≤ l0.length) ∧ Aside0 (findCh (l0.drop i) i = r) ∧ Aside0 (Below w.heap.size w w'))
  case atStart => exact ⟨0, rfl, ⟨by omega⟩, H0, ⟨Below.refl _ _⟩⟩
  case round =>
    clear H0
    obtain ⟨i, rfl, HK, H, HB⟩ := hrel
    by_cases hi : i < l0.length
    · have p1 : 0 ≤ (i : Int) := by omega
      have q1 : (i : Int) < (l0.length : Int) := by omega
      have H1 := H.out
      rw [dropS l0 z72 i hi] at H1
      simp only [findCh] at H1
      have hrd : l0.getD i z72 = rd_T72 l0 (i : Int) := rfl
      rw [hrd] at H1
      obtain ⟨ad, e1, hx0, hx1⟩ := at_T72 (Kd.C_below HR.out HB.out) (i : Int) p1 q1
      cases e1
      simp only [Int.toNat_natCast] at hx0 hx1
      have z1 : decide ((i : Int) < (l0.length : Int)) = true := decide_eq_true q1
      generalize rd_T72 l0 (i : Int) = g at H1 hx0 hx1
      clear hrd H
      have HW : Aside0 (wrap64 ((i : Int) + 1) = ((i + 1 : Nat) : Int)) := ⟨by rw [Pure.w64' (by omega) (by omega)]; omega⟩
      by_cases hk : g.f0 = 1
      · rw [if_pos hk] at H1
        have H2 := Aside0.mk H1
        have z2 : (g.f0 != 1) = false := bne_eq_false_iff_eq.mpr hk
        clear H1 hk
        go_wp2_with (go_at_call 51; (with_reducible refine (isCh.calls g.f0 g.f1 _).mono ?_); rintro e w' ⟨rfl, hb⟩; have HB2 := Aside0.mk (below_step HB.out hb); clear hb)
        go_roundg (gk - 1)
        case measure => have := HK.out; omega
        case rel => exact ⟨i + 1, (by first | (rw [HW.out]; done) | go_num | (simp; done)), ⟨by have := HK.out; omega⟩, H2, HB2⟩
      · rw [if_neg hk] at H1
        obtain rfl := H1
        have z2 : (g.f0 != 1) = true := bne_iff_ne.mpr hk
        clear hk
        go_wp2_with (go_at_call 51; (with_reducible refine (isCh.calls g.f0 g.f1 _).mono ?_); rintro e w' ⟨rfl, hb⟩; have HB2 := Aside0.mk (below_step HB.out hb); clear hb)
        go_ret
        exact ⟨rfl, HB2.out⟩
    · have hd : l0.drop i = [] := List.drop_of_length_le (by omega)
      have h1 := H.out
      rw [hd] at h1
      simp only [findCh] at h1
      obtain rfl := h1
      have z1 : decide ((i : Int) < (l0.length : Int)) = false := decide_eq_false (by omega)
      clear H
      go_wp2
      go_ret
      exact ⟨rfl, HB.out⟩
end Go.Proofs.Ytkoagpnoaibdjaa.Ext
