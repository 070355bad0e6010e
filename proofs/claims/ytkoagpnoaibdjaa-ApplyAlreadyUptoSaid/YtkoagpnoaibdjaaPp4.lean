import Derived.Test.YtkoagpnoaibdjaaESt
import Derived.Test.YtkoagpnoaibdjaaPp0
import Derived.Test.YtkoagpnoaibdjaaPp1
import Derived.Test.YtkoagpnoaibdjaaPp2
import Derived.Test.YtkoagpnoaibdjaaPp3
namespace Go.Proofs.Ytkoagpnoaibdjaa.Pp
open Go.RowKit Go.Proofs.Ytkoagpnoaibdjaa.Ext Go.Proofs.YtkoagpnoaibdjaaW.PrintWords Go.Proofs.YtkoagpnoaibdjaaW.PrintLast Go.Proofs.YtkoagpnoaibdjaaW.PrintMore
attribute [local go_sem] max2_int min2_int max_two min_two max_three min_three max_four min_four   -- for this text's walks alone
set_option linter.unusedVariables false
set_option linter.unusedSimpArgs false
mutual
def selvageref10_Build.j0 : Nat → List (S57) → List ByteArray → List ByteArray → Int → Bool → Option ((List (S41)) × Int)
 | 0, _, _, _, _, _ => none
 | k + 1, x0, x1, x2, x3, x23 => if x23 = true then (some (([] : List (S41)), 1)) else ((selvageref01_Valid.f k x1).bind fun t181 => (if t181 = true then ((selvageref01_Valid.f k x2).bind fun t182 => (selvageref10_Build.j1 k x0 x1 x2 x3 (!t182))) else (selvageref10_Build.j1 k x0 x1 x2 x3 true)))
def selvageref10_Build.j1 : Nat → List (S57) → List ByteArray → List ByteArray → Int → Bool → Option ((List (S41)) × Int)
 | 0, _, _, _, _, _ => none
 | k + 1, x0, x1, x2, x3, x31 => if x31 = true then (some (([] : List (S41)), 3)) else ((selvageref06_Normal.f k x0 (x1.length : Int) (x2.length : Int)).bind fun bt183 => (if bt183.2 = 0 then ((selvageref06_Pairs.f k bt183.1 (x1.length : Int) (x2.length : Int)).bind fun bt187 => (selvageref10_Build.l0 k x1 x2 x3 bt183.1 bt187.1 0)) else (some (([] : List (S41)), bt183.2))))
def selvageref10_Build.l0 : Nat → List ByteArray → List ByteArray → Int → List (S57) → List (S55) → Int → Option ((List (S41)) × Int)
 | 0, _, _, _, _, _, _ => none
 | k + 1, x1, x2, x3, x10, x12, x14 => if x14 < (x12.length : Int) then (if 0 ≤ x14 then (if 0 ≤ ((rd_T55 x12 x14).f0) then (if ((rd_T55 x12 x14).f0) < (x1.length : Int) then ((selvageref01_Whole.f (rdOf ByteArray.empty x1 ((rd_T55 x12 x14).f0))).bind fun t193 => (if 0 ≤ ((rd_T55 x12 x14).f1) then (if ((rd_T55 x12 x14).f1) < (x2.length : Int) then ((selvageref01_Whole.f (rdOf ByteArray.empty x2 ((rd_T55 x12 x14).f1))).bind fun t196 => (if (t193 != t196) = true then (some (([] : List (S41)), 61)) else (selvageref10_Build.l0 k x1 x2 x3 x10 x12 (wrap64 (x14 + 1))))) else (none)) else (none))) else (none)) else (none)) else (none)) else (selvageref10_Build.l1 k x1 x2 x3 x10 ([] : List (S41)) 0 1)
def selvageref10_Build.l1 : Nat → List ByteArray → List ByteArray → Int → List (S57) → List (S41) → Int → Int → Option ((List (S41)) × Int)
 | 0, _, _, _, _, _, _, _ => none
 | k + 1, x1, x2, x3, x10, x15, x16, x17 => if x17 ≤ (x10.length : Int) then (if x17 = (x10.length : Int) then (if 0 ≤ x16 then (if x16 ≤ x17 then ((selvageref10_one.f k ((x10.take (x17 : Int).toNat).drop (x16 : Int).toNat) x1 x2 x3).bind fun bt201 => (if x15.length < 1954687338268 then (selvageref10_Build.l1 k x1 x2 x3 x10 (x15 ++ [(⟨bt201.1, bt201.2.1, bt201.2.2.1, bt201.2.2.2.1, bt201.2.2.2.2.1, bt201.2.2.2.2.2⟩ : S41)]) x17 (wrap64 (x17 + 1))) else (none))) else (none)) else (none)) else (if 0 ≤ x17 then (if x17 < (x10.length : Int) then (if 0 ≤ (wrap64 (x17 - 1)) then (if (wrap64 (x17 - 1)) < (x10.length : Int) then (if (wrap64 (((rd_T57 x10 x17).f0) - (wrap64 (((rd_T57 x10 (wrap64 (x17 - 1))).f0) + ((rd_T57 x10 (wrap64 (x17 - 1))).f1))))) > (wrap64 (2 * x3)) then (if 0 ≤ x16 then (if x16 ≤ x17 then ((selvageref10_one.f k ((x10.take (x17 : Int).toNat).drop (x16 : Int).toNat) x1 x2 x3).bind fun bt219 => (if x15.length < 1954687338268 then (selvageref10_Build.l1 k x1 x2 x3 x10 (x15 ++ [(⟨bt219.1, bt219.2.1, bt219.2.2.1, bt219.2.2.2.1, bt219.2.2.2.2.1, bt219.2.2.2.2.2⟩ : S41)]) x17 (wrap64 (x17 + 1))) else (none))) else (none)) else (none)) else (selvageref10_Build.l1 k x1 x2 x3 x10 x15 x16 (wrap64 (x17 + 1)))) else (none)) else (none)) else (none)) else (none))) else (some (x15, 0))
end
def selvageref10_Build.f (k : Nat) (l0 : List (S57)) (l1 : List ByteArray) (l2 : List ByteArray) (a3 : Int) : Option ((List (S41)) × Int) := if a3 < 0 then (selvageref10_Build.j0 k l0 l1 l2 a3 true) else (selvageref10_Build.j0 k l0 l1 l2 a3 (decide (a3 > 2147483647)))
set_option maxHeartbeats 80000000 in
set_option maxRecDepth 100000 in
theorem selvageref10_Build.calls (k : Nat) (A0 : Option Addr) (c0 : Nat) (l0 : List (S57)) (A1 : Option Addr) (c1 : Nat) (l1 : List ByteArray) (A2 : Option Addr) (c2 : Nat) (l2 : List ByteArray) (a3 : Int) (r1 : List (S41)) (r2 : Int) (w : World) (hr0 : Kd.C k57 w A0 l0.length l0) (hc0 : l0.length ≤ c0) (hr1 : Kd.C Kd.string w A1 l1.length l1) (hc1 : l1.length ≤ c1) (hr2 : Kd.C Kd.string w A2 l2.length l2) (hc2 : l2.length ≤ c2) (h : selvageref10_Build.f k l0 l1 l2 a3 = some (r1, r2)) :
  Calls Try.prog 6 #[.slice A0 l0.length c0, .slice A1 l1.length c1, .slice A2 l2.length c2, .int .i64 a3] w fun e w' => ∃ v0_ : Value, e = .returned (.tuple #[v0_, .int .i64 r2]) ∧ Kd.S k41 41 w' w.heap.size (fun _ => True) v0_ r1 ∧ Below w.heap.size w w' := by
 have HR0 := Aside0.mk hr0
 have HC0 := Aside0.mk hc0
 clear hr0 hc0
 have HR1 := Aside0.mk hr1
 have HC1 := Aside0.mk hc1
 clear hr1 hc1
 have HR2 := Aside0.mk hr2
 have HC2 := Aside0.mk hc2
 clear hr2 hc2
 have HB := Aside0.mk (Below.refl w.heap.size w)
 have H := h
 clear h
 unfold selvageref10_Build.f at H
 have HC5 := Aside0.mk H
 clear H
 go_enter Try.func6, Try.ntmps6
 try simp only [List.append_eq, List.cons_append, List.nil_append]
 go_upto_region 1 with (fail)
 repeat (go_quiet (fail); go_upto_region 1 with (fail))
 go_cut [23] (fun v23 wc => ∃ (kq : Nat) (x23_4 : Bool), v23 = .bool x23_4 ∧ Aside0 (selvageref10_Build.j0 kq l0 l1 l2 a3 x23_4 = some (r1, r2)) ∧ Aside0 (kq ≤ k) ∧ Aside0 (Below w.heap.size w wc))
 case first =>
  have H := HC5.out
  clear HC5
  replace H := itL H
  rcases H with ⟨-, c6b0, H⟩ | ⟨-, c6b0, H⟩
  ·(first | rw [c6b0] | (simp only [i64_w, i32_w]; rw [c6b0]) | skip)
   have H' := Aside0.mk H
   clear H
   go_wp2
   repeat (go_quiet (fail); try go_wp2)
   go_meet
   case rel => exact ⟨_, (true), eqNow, H', ⟨by first | omega | exact Nat.le_refl _⟩, ⟨belNow⟩⟩
  (first | rw [c6b0] | (simp only [i64_w, i32_w]; rw [c6b0]) | skip)
  have H' := Aside0.mk H
  clear H
  go_wp2
  repeat (go_quiet (fail); try go_wp2)
  go_meet
  case rel => exact ⟨_, (decide (a3 > 2147483647)), eqNow, H', ⟨by first | omega | exact Nat.le_refl _⟩, ⟨belNow⟩⟩
 case rest =>
  clear HC5
  try clear c1
  try clear c2
  obtain ⟨kq, x23_4, rfl, HA, HJ4, HB⟩ := hcut
  cases kq with
  | zero => exact absurd HA.out (by simp [selvageref10_Build.j0])
  | succ kj4 =>
   have H := HA.out
   clear HA
   simp only [selvageref10_Build.j0] at H
   replace H := itB H
   rcases H with ⟨rfl, H⟩ | ⟨rfl, H⟩
   ·simp only [Option.some.injEq, Prod.mk.injEq] at H
    obtain ⟨rfl, rfl⟩ := H
    go_wp2
    repeat (go_quiet (fail); try go_wp2)
    go_ret2
    exact ⟨_, eqEnd, kNil, belNow⟩
   have HC8 := Aside0.mk H
   clear H
   go_upto_region 3 with (fail)
   repeat (go_quiet (fail); go_upto_region 3 with (fail))
   go_cut [31] (fun v31 wc => ∃ (kq : Nat) (x31_7 : Bool), v31 = .bool x31_7 ∧ Aside0 (selvageref10_Build.j1 kq l0 l1 l2 a3 x31_7 = some (r1, r2)) ∧ Aside0 (kq ≤ kj4) ∧ Aside0 (Below w.heap.size w wc))
   case first =>
    have H := HC8.out
    clear HC8
    replace H := bdS H
    obtain ⟨t181, A9, H⟩ := H
    replace H := itBn H
    rcases H with ⟨rfl, H⟩ | ⟨rfl, H⟩
    ·have H' := Aside0.mk H
     clear H
     go_wp2_with (first | (go_at_call 16; (with_reducible refine (selvageref01_Valid.calls kj4 _ _ l1 false _ ?side1 ?side2 A9.out).mono ?_); (case side1 => exact kcU HR1 HB); (case side2 => exact HC1.out); rintro e w' ⟨rfl, ⟨nd, rfl⟩⟩; (try exact drwOk)))
     repeat (go_quiet (first | (go_at_call 16; (with_reducible refine (selvageref01_Valid.calls kj4 _ _ l1 false _ ?side1 ?side2 A9.out).mono ?_); (case side1 => exact kcU HR1 HB); (case side2 => exact HC1.out); rintro e w' ⟨rfl, ⟨nd, rfl⟩⟩; (try exact drwOk))); try go_wp2_with (first | (go_at_call 16; (with_reducible refine (selvageref01_Valid.calls kj4 _ _ l1 false _ ?side1 ?side2 A9.out).mono ?_); (case side1 => exact kcU HR1 HB); (case side2 => exact HC1.out); rintro e w' ⟨rfl, ⟨nd, rfl⟩⟩; (try exact drwOk))))
     go_meet
     case rel => exact ⟨_, (true), eqNow, H', ⟨by have := HJ4.out; first | omega | exact Nat.le_refl _⟩, ⟨belNow⟩⟩
    replace H := bdS H
    obtain ⟨t182, A11, H⟩ := H
    have H' := Aside0.mk H
    clear H
    go_wp2_with (first | (go_at_call 16; (with_reducible refine (selvageref01_Valid.calls kj4 _ _ l1 true _ ?side1 ?side2 A9.out).mono ?_); (case side1 => exact kcU HR1 HB); (case side2 => exact HC1.out); rintro e w' ⟨rfl, ⟨nd, rfl⟩⟩; (try exact drwOk)) | (go_at_call 16; (with_reducible refine (selvageref01_Valid.calls kj4 _ _ l2 t182 _ ?side1 ?side2 A11.out).mono ?_); (case side1 => repeat (first | exact (Kd.C_below HR2.out belNow) | (with_reducible refine Kd.C_alloc ?_ _) | (with_reducible refine Kd.C_drewN ?_ _) | (with_reducible refine Kd.C_drew ?_))); (case side2 => exact HC2.out); rintro e w' ⟨rfl, ⟨nd, rfl⟩⟩; (try exact drwOk)))
    repeat (go_quiet (first | (go_at_call 16; (with_reducible refine (selvageref01_Valid.calls kj4 _ _ l1 true _ ?side1 ?side2 A9.out).mono ?_); (case side1 => exact kcU HR1 HB); (case side2 => exact HC1.out); rintro e w' ⟨rfl, ⟨nd, rfl⟩⟩; (try exact drwOk)) | (go_at_call 16; (with_reducible refine (selvageref01_Valid.calls kj4 _ _ l2 t182 _ ?side1 ?side2 A11.out).mono ?_); (case side1 => repeat (first | exact (Kd.C_below HR2.out belNow) | (with_reducible refine Kd.C_alloc ?_ _) | (with_reducible refine Kd.C_drewN ?_ _) | (with_reducible refine Kd.C_drew ?_))); (case side2 => exact HC2.out); rintro e w' ⟨rfl, ⟨nd, rfl⟩⟩; (try exact drwOk))); try go_wp2_with (first | (go_at_call 16; (with_reducible refine (selvageref01_Valid.calls kj4 _ _ l1 true _ ?side1 ?side2 A9.out).mono ?_); (case side1 => exact kcU HR1 HB); (case side2 => exact HC1.out); rintro e w' ⟨rfl, ⟨nd, rfl⟩⟩; (try exact drwOk)) | (go_at_call 16; (with_reducible refine (selvageref01_Valid.calls kj4 _ _ l2 t182 _ ?side1 ?side2 A11.out).mono ?_); (case side1 => repeat (first | exact (Kd.C_below HR2.out belNow) | (with_reducible refine Kd.C_alloc ?_ _) | (with_reducible refine Kd.C_drewN ?_ _) | (with_reducible refine Kd.C_drew ?_))); (case side2 => exact HC2.out); rintro e w' ⟨rfl, ⟨nd, rfl⟩⟩; (try exact drwOk))))
    go_meet
    case rel => exact ⟨_, (!t182), eqNow, H', ⟨by have := HJ4.out; first | omega | exact Nat.le_refl _⟩, ⟨belNow⟩⟩
   case rest =>
    clear HC8
    try clear c1
    try clear c2
    try clear c7
    obtain ⟨kq, x31_7, rfl, HA, HJ7, HB⟩ := hcut
    cases kq with
    | zero => exact absurd HA.out (by simp [selvageref10_Build.j1])
    | succ kj7 =>
     have H := HA.out
     clear HA
     simp only [selvageref10_Build.j1] at H
     replace H := itB H
     rcases H with ⟨rfl, H⟩ | ⟨rfl, H⟩
     ·simp only [Option.some.injEq, Prod.mk.injEq] at H
      obtain ⟨rfl, rfl⟩ := H
      go_wp2
      repeat (go_quiet (fail); try go_wp2)
      go_ret2
      exact ⟨_, eqEnd, kNil, belNow⟩
     replace H := bdS H
     obtain ⟨⟨t183, t184⟩, A13, H⟩ := H
     replace H : (if t184 = 0 then ((selvageref06_Pairs.f kj7 t183 (l1.length : Int) (l2.length : Int)).bind fun bt187 => (selvageref10_Build.l0 kj7 l1 l2 a3 t183 bt187.1 0)) else (some (([] : List (S41)), t184))) = some (r1, r2) := H
     replace H := itEn H
     rcases H with ⟨c14, c14b0, c14b1, H⟩ | ⟨-, c14b0, c14b1, H⟩
     ·simp only [Option.some.injEq, Prod.mk.injEq] at H
      obtain ⟨rfl, rfl⟩ := H
      go_wp2_with (first | (go_at_call 17; (with_reducible refine (selvageref06_Normal.calls kj7 _ _ l0 (l1.length : Int) (l2.length : Int) t183 t184 _ ?side1 ?side2 A13.out).mono ?_); (case side1 => exact kcU HR0 HB); (case side2 => exact HC0.out); rintro e w57 ⟨v185, rfl, ho0, hb⟩; have HO186 := Aside0.mk (Kd.R_lower ho0 (below_size belNow)); replace HB := hbD HB hb; clear hb; (try clear ho0)))
      repeat (go_quiet (first | (go_at_call 17; (with_reducible refine (selvageref06_Normal.calls kj7 _ _ l0 (l1.length : Int) (l2.length : Int) t183 t184 _ ?side1 ?side2 A13.out).mono ?_); (case side1 => exact kcU HR0 HB); (case side2 => exact HC0.out); rintro e w57 ⟨v185, rfl, ho0, hb⟩; have HO186 := Aside0.mk (Kd.R_lower ho0 (below_size belNow)); replace HB := hbD HB hb; clear hb; (try clear ho0))); try go_wp2_with (first | (go_at_call 17; (with_reducible refine (selvageref06_Normal.calls kj7 _ _ l0 (l1.length : Int) (l2.length : Int) t183 t184 _ ?side1 ?side2 A13.out).mono ?_); (case side1 => exact kcU HR0 HB); (case side2 => exact HC0.out); rintro e w57 ⟨v185, rfl, ho0, hb⟩; have HO186 := Aside0.mk (Kd.R_lower ho0 (below_size belNow)); replace HB := hbD HB hb; clear hb; (try clear ho0))))
      go_ret2
      exact ⟨_, eqEnd, kNil, belNow⟩
     replace H := bdS H
     obtain ⟨⟨t187, t188⟩, A15, H⟩ := H
     replace H : (selvageref10_Build.l0 kj7 l1 l2 a3 t183 t187 0) = some (r1, r2) := H
     have H' := Aside0.mk H
     clear H
     go_wp2_with (first | (go_at_call 17; (with_reducible refine (selvageref06_Normal.calls kj7 _ _ l0 (l1.length : Int) (l2.length : Int) t183 t184 _ ?side1 ?side2 A13.out).mono ?_); (case side1 => exact kcU HR0 HB); (case side2 => exact HC0.out); rintro e w16 ⟨v185, rfl, ho0, hb⟩; have HO186 := Aside0.mk (Kd.R_lower ho0 (below_size belNow)); replace HB := hbD HB hb; clear hb; (try clear ho0); obtain ⟨Ao17, co17, eo17⟩ := Kd.R_slice HO186.out; subst eo17) | (go_at_call 18; (with_reducible refine (selvageref06_Pairs.calls kj7 _ _ t183 (l1.length : Int) (l2.length : Int) t187 t188 _ ?side1 ?side2 A15.out).mono ?_); (case side1 => repeat (first | exact (Kd.R_reads' HO186.out).2.2 | (with_reducible refine Kd.C_alloc ?_ _) | (with_reducible refine Kd.C_drewN ?_ _) | (with_reducible refine Kd.C_drew ?_))); (case side2 => exact (Kd.R_reads' HO186.out).2.1); rintro e w18 ⟨v189, rfl, ho0, hb⟩; replace HO186 := Aside0.mk (Kd.R_below (kdUp HO186.out) hb); have HO190 := Aside0.mk (Kd.R_lower ho0 (below_size belNow)); replace HB := hbD HB hb; clear hb; (try clear ho0)))
     repeat (go_quiet (first | (go_at_call 17; (with_reducible refine (selvageref06_Normal.calls kj7 _ _ l0 (l1.length : Int) (l2.length : Int) t183 t184 _ ?side1 ?side2 A13.out).mono ?_); (case side1 => exact kcU HR0 HB); (case side2 => exact HC0.out); rintro e w16 ⟨v185, rfl, ho0, hb⟩; have HO186 := Aside0.mk (Kd.R_lower ho0 (below_size belNow)); replace HB := hbD HB hb; clear hb; (try clear ho0); obtain ⟨Ao17, co17, eo17⟩ := Kd.R_slice HO186.out; subst eo17) | (go_at_call 18; (with_reducible refine (selvageref06_Pairs.calls kj7 _ _ t183 (l1.length : Int) (l2.length : Int) t187 t188 _ ?side1 ?side2 A15.out).mono ?_); (case side1 => repeat (first | exact (Kd.R_reads' HO186.out).2.2 | (with_reducible refine Kd.C_alloc ?_ _) | (with_reducible refine Kd.C_drewN ?_ _) | (with_reducible refine Kd.C_drew ?_))); (case side2 => exact (Kd.R_reads' HO186.out).2.1); rintro e w18 ⟨v189, rfl, ho0, hb⟩; replace HO186 := Aside0.mk (Kd.R_below (kdUp HO186.out) hb); have HO190 := Aside0.mk (Kd.R_lower ho0 (below_size belNow)); replace HB := hbD HB hb; clear hb; (try clear ho0))); try go_wp2_with (first | (go_at_call 17; (with_reducible refine (selvageref06_Normal.calls kj7 _ _ l0 (l1.length : Int) (l2.length : Int) t183 t184 _ ?side1 ?side2 A13.out).mono ?_); (case side1 => exact kcU HR0 HB); (case side2 => exact HC0.out); rintro e w16 ⟨v185, rfl, ho0, hb⟩; have HO186 := Aside0.mk (Kd.R_lower ho0 (below_size belNow)); replace HB := hbD HB hb; clear hb; (try clear ho0); obtain ⟨Ao17, co17, eo17⟩ := Kd.R_slice HO186.out; subst eo17) | (go_at_call 18; (with_reducible refine (selvageref06_Pairs.calls kj7 _ _ t183 (l1.length : Int) (l2.length : Int) t187 t188 _ ?side1 ?side2 A15.out).mono ?_); (case side1 => repeat (first | exact (Kd.R_reads' HO186.out).2.2 | (with_reducible refine Kd.C_alloc ?_ _) | (with_reducible refine Kd.C_drewN ?_ _) | (with_reducible refine Kd.C_drew ?_))); (case side2 => exact (Kd.R_reads' HO186.out).2.1); rintro e w18 ⟨v189, rfl, ho0, hb⟩; replace HO186 := Aside0.mk (Kd.R_below (kdUp HO186.out) hb); have HO190 := Aside0.mk (Kd.R_lower ho0 (below_size belNow)); replace HB := hbD HB hb; clear hb; (try clear ho0))))
     go_loopg [14] kj7 (fun kq v14 w' => ∃ (x14_3 : Int), v14 = .int .i64 x14_3 ∧ Aside0 (selvageref10_Build.l0 kq l1 l2 a3 t183 t187 x14_3 = some (r1, r2)) ∧ Aside0 (kq ≤ kj7) ∧ Aside0 (Kd.R k57 57 w' w.heap.size (fun _ => True) (.slice Ao17 t183.length co17) t183) ∧ Aside0 (Kd.R k55 55 w' w.heap.size (fun _ => True) v189 t187) ∧ Aside0 (Below w.heap.size w w'))
     case atStart => exact ⟨(0), eqNow, H', ⟨Nat.le_refl _⟩, ⟨kdMv HO186⟩, ⟨kdMv HO190⟩, ⟨belNow⟩⟩
     case round =>
      clear H'
      try clear c1
      try clear c2
      try clear c7
      try clear c12
      try clear c14
      try clear c14b0
      try clear c14b1
      obtain ⟨x14_3, rfl, HA, HK3, HO_10, HO_12, HB⟩ := hrel
      cases gk with
      | zero => exact absurd HA.out (by simp [selvageref10_Build.l0])
      | succ k3 =>
       have H := HA.out
       clear HA
       simp only [selvageref10_Build.l0] at H
       replace H := itL H
       rcases H with ⟨-, c19b0, H⟩ | ⟨-, c19b0, H⟩
       ·replace H := itLn H
        rcases H with ⟨_, _, H⟩ | ⟨-, c20b0, H⟩
        ·cases H
        replace H := itLn H
        rcases H with ⟨_, _, H⟩ | ⟨-, c21b0, H⟩
        ·cases H
        replace H := itLn H
        rcases H with ⟨_, _, H⟩ | ⟨-, c22b0, H⟩
        ·cases H
        replace H := bdS H
        obtain ⟨t193, A23, H⟩ := H
        replace H := itLn H
        rcases H with ⟨_, _, H⟩ | ⟨-, c24b0, H⟩
        ·cases H
        replace H := itLn H
        rcases H with ⟨_, _, H⟩ | ⟨-, c25b0, H⟩
        ·cases H
        replace H := bdS H
        obtain ⟨t196, A26, H⟩ := H
        replace H := itE H
        rcases H with ⟨c27, -, -, H⟩ | ⟨c27, -, -, H⟩
        ·have c27b0 : (t193 != t196) = true := c27
         (try (have c27b1 : decide (t193 = t196) = false := by simpa using c27))
         (try (have c27b2 : (t193 == t196) = false := by simpa using c27))
         (try (have c27b3 : ¬ (t193 = t196) := by simpa using c27))
         clear c27
         simp only [Option.some.injEq, Prod.mk.injEq] at H
         obtain ⟨rfl, rfl⟩ := H
         obtain ⟨Ao28, co28, eo28⟩ := Kd.R_slice HO_12.out
         subst eo28
         have p191 : 0 ≤ (x14_3 : Int) := ofDec
         have q191 : x14_3 < (t187.length : Int) := ofDec
         obtain ⟨ad191, e191, hx191_0, hx191_1⟩ := at_T55 (Kd.R_reads' HO_12.out).2.2 x14_3 p191 q191
         cases e191
         replace p191 := eq_true p191
         replace q191 := eq_true q191
         have p192 : 0 ≤ (((rd_T55 t187 x14_3).f0) : Int) := ofDec
         have q192 : ((rd_T55 t187 x14_3).f0) < (l1.length : Int) := ofDec
         obtain ⟨ad192, e192, hx192_0⟩ := Kd.at_string HR1.out ((rd_T55 t187 x14_3).f0) p192 q192
         cases e192
         replace hx192_0 := cUp HB.out hx192_0
         replace p192 := eq_true p192
         replace q192 := eq_true q192
         go_wp2_with (first | (go_at_call 19; (with_reducible refine (selvageref01_Whole.calls (rdOf ByteArray.empty l1 ((rd_T55 t187 x14_3).f0)) t193 _ A23.out).mono ?_); rintro e w' ⟨rfl, ⟨nd, rfl⟩⟩; (try exact drwOk); have p194 : 0 ≤ (x14_3 : Int) := ofDec; have q194 : x14_3 < (t187.length : Int) := ofDec; obtain ⟨ad194, e194, hx194_0, hx194_1⟩ := at_T55 (Kd.R_reads' HO_12.out).2.2 x14_3 p194 q194; obtain rfl : ad191 = ad194 := (by injection e194); replace p194 := eq_true p194; replace q194 := eq_true q194; have p195 : 0 ≤ (((rd_T55 t187 x14_3).f1) : Int) := ofDec; have q195 : ((rd_T55 t187 x14_3).f1) < (l2.length : Int) := ofDec; obtain ⟨ad195, e195, hx195_0⟩ := Kd.at_string HR2.out ((rd_T55 t187 x14_3).f1) p195 q195; cases e195; replace hx195_0 := (HB.out.cell (World.block_lt_of_cell? w _ hx195_0)).trans hx195_0; replace p195 := eq_true p195; replace q195 := eq_true q195) | (go_at_call 19; (with_reducible refine (selvageref01_Whole.calls (rdOf ByteArray.empty l2 ((rd_T55 t187 x14_3).f1)) t196 _ A26.out).mono ?_); rintro e w' ⟨rfl, ⟨nd, rfl⟩⟩; (try exact drwOk)))
         repeat (go_quiet (first | (go_at_call 19; (with_reducible refine (selvageref01_Whole.calls (rdOf ByteArray.empty l1 ((rd_T55 t187 x14_3).f0)) t193 _ A23.out).mono ?_); rintro e w' ⟨rfl, ⟨nd, rfl⟩⟩; (try exact drwOk); have p194 : 0 ≤ (x14_3 : Int) := ofDec; have q194 : x14_3 < (t187.length : Int) := ofDec; obtain ⟨ad194, e194, hx194_0, hx194_1⟩ := at_T55 (Kd.R_reads' HO_12.out).2.2 x14_3 p194 q194; obtain rfl : ad191 = ad194 := (by injection e194); replace p194 := eq_true p194; replace q194 := eq_true q194; have p195 : 0 ≤ (((rd_T55 t187 x14_3).f1) : Int) := ofDec; have q195 : ((rd_T55 t187 x14_3).f1) < (l2.length : Int) := ofDec; obtain ⟨ad195, e195, hx195_0⟩ := Kd.at_string HR2.out ((rd_T55 t187 x14_3).f1) p195 q195; cases e195; replace hx195_0 := (HB.out.cell (World.block_lt_of_cell? w _ hx195_0)).trans hx195_0; replace p195 := eq_true p195; replace q195 := eq_true q195) | (go_at_call 19; (with_reducible refine (selvageref01_Whole.calls (rdOf ByteArray.empty l2 ((rd_T55 t187 x14_3).f1)) t196 _ A26.out).mono ?_); rintro e w' ⟨rfl, ⟨nd, rfl⟩⟩; (try exact drwOk))); try go_wp2_with (first | (go_at_call 19; (with_reducible refine (selvageref01_Whole.calls (rdOf ByteArray.empty l1 ((rd_T55 t187 x14_3).f0)) t193 _ A23.out).mono ?_); rintro e w' ⟨rfl, ⟨nd, rfl⟩⟩; (try exact drwOk); have p194 : 0 ≤ (x14_3 : Int) := ofDec; have q194 : x14_3 < (t187.length : Int) := ofDec; obtain ⟨ad194, e194, hx194_0, hx194_1⟩ := at_T55 (Kd.R_reads' HO_12.out).2.2 x14_3 p194 q194; obtain rfl : ad191 = ad194 := (by injection e194); replace p194 := eq_true p194; replace q194 := eq_true q194; have p195 : 0 ≤ (((rd_T55 t187 x14_3).f1) : Int) := ofDec; have q195 : ((rd_T55 t187 x14_3).f1) < (l2.length : Int) := ofDec; obtain ⟨ad195, e195, hx195_0⟩ := Kd.at_string HR2.out ((rd_T55 t187 x14_3).f1) p195 q195; cases e195; replace hx195_0 := (HB.out.cell (World.block_lt_of_cell? w _ hx195_0)).trans hx195_0; replace p195 := eq_true p195; replace q195 := eq_true q195) | (go_at_call 19; (with_reducible refine (selvageref01_Whole.calls (rdOf ByteArray.empty l2 ((rd_T55 t187 x14_3).f1)) t196 _ A26.out).mono ?_); rintro e w' ⟨rfl, ⟨nd, rfl⟩⟩; (try exact drwOk))))
         go_ret2
         exact ⟨_, eqEnd, kNil, belNow⟩
        have c27b0 : (t193 != t196) = false := by simpa using c27
        (try (have c27b1 : decide (t193 = t196) = true := by simpa using c27))
        (try (have c27b2 : (t193 == t196) = true := by simpa using c27))
        clear c27
        have H' := Aside0.mk H
        clear H
        obtain ⟨Ao29, co29, eo29⟩ := Kd.R_slice HO_12.out
        subst eo29
        have p191 : 0 ≤ (x14_3 : Int) := ofDec
        have q191 : x14_3 < (t187.length : Int) := ofDec
        obtain ⟨ad191, e191, hx191_0, hx191_1⟩ := at_T55 (Kd.R_reads' HO_12.out).2.2 x14_3 p191 q191
        cases e191
        replace p191 := eq_true p191
        replace q191 := eq_true q191
        have p192 : 0 ≤ (((rd_T55 t187 x14_3).f0) : Int) := ofDec
        have q192 : ((rd_T55 t187 x14_3).f0) < (l1.length : Int) := ofDec
        obtain ⟨ad192, e192, hx192_0⟩ := Kd.at_string HR1.out ((rd_T55 t187 x14_3).f0) p192 q192
        cases e192
        replace hx192_0 := cUp HB.out hx192_0
        replace p192 := eq_true p192
        replace q192 := eq_true q192
        go_wp2_with (first | (go_at_call 19; (with_reducible refine (selvageref01_Whole.calls (rdOf ByteArray.empty l1 ((rd_T55 t187 x14_3).f0)) t193 _ A23.out).mono ?_); rintro e w' ⟨rfl, ⟨nd, rfl⟩⟩; (try exact drwOk); have p194 : 0 ≤ (x14_3 : Int) := ofDec; have q194 : x14_3 < (t187.length : Int) := ofDec; obtain ⟨ad194, e194, hx194_0, hx194_1⟩ := at_T55 (Kd.R_reads' HO_12.out).2.2 x14_3 p194 q194; obtain rfl : ad191 = ad194 := (by injection e194); replace p194 := eq_true p194; replace q194 := eq_true q194; have p195 : 0 ≤ (((rd_T55 t187 x14_3).f1) : Int) := ofDec; have q195 : ((rd_T55 t187 x14_3).f1) < (l2.length : Int) := ofDec; obtain ⟨ad195, e195, hx195_0⟩ := Kd.at_string HR2.out ((rd_T55 t187 x14_3).f1) p195 q195; cases e195; replace hx195_0 := (HB.out.cell (World.block_lt_of_cell? w _ hx195_0)).trans hx195_0; replace p195 := eq_true p195; replace q195 := eq_true q195) | (go_at_call 19; (with_reducible refine (selvageref01_Whole.calls (rdOf ByteArray.empty l2 ((rd_T55 t187 x14_3).f1)) t196 _ A26.out).mono ?_); rintro e w' ⟨rfl, ⟨nd, rfl⟩⟩; (try exact drwOk)))
        repeat (go_quiet (first | (go_at_call 19; (with_reducible refine (selvageref01_Whole.calls (rdOf ByteArray.empty l1 ((rd_T55 t187 x14_3).f0)) t193 _ A23.out).mono ?_); rintro e w' ⟨rfl, ⟨nd, rfl⟩⟩; (try exact drwOk); have p194 : 0 ≤ (x14_3 : Int) := ofDec; have q194 : x14_3 < (t187.length : Int) := ofDec; obtain ⟨ad194, e194, hx194_0, hx194_1⟩ := at_T55 (Kd.R_reads' HO_12.out).2.2 x14_3 p194 q194; obtain rfl : ad191 = ad194 := (by injection e194); replace p194 := eq_true p194; replace q194 := eq_true q194; have p195 : 0 ≤ (((rd_T55 t187 x14_3).f1) : Int) := ofDec; have q195 : ((rd_T55 t187 x14_3).f1) < (l2.length : Int) := ofDec; obtain ⟨ad195, e195, hx195_0⟩ := Kd.at_string HR2.out ((rd_T55 t187 x14_3).f1) p195 q195; cases e195; replace hx195_0 := (HB.out.cell (World.block_lt_of_cell? w _ hx195_0)).trans hx195_0; replace p195 := eq_true p195; replace q195 := eq_true q195) | (go_at_call 19; (with_reducible refine (selvageref01_Whole.calls (rdOf ByteArray.empty l2 ((rd_T55 t187 x14_3).f1)) t196 _ A26.out).mono ?_); rintro e w' ⟨rfl, ⟨nd, rfl⟩⟩; (try exact drwOk))); try go_wp2_with (first | (go_at_call 19; (with_reducible refine (selvageref01_Whole.calls (rdOf ByteArray.empty l1 ((rd_T55 t187 x14_3).f0)) t193 _ A23.out).mono ?_); rintro e w' ⟨rfl, ⟨nd, rfl⟩⟩; (try exact drwOk); have p194 : 0 ≤ (x14_3 : Int) := ofDec; have q194 : x14_3 < (t187.length : Int) := ofDec; obtain ⟨ad194, e194, hx194_0, hx194_1⟩ := at_T55 (Kd.R_reads' HO_12.out).2.2 x14_3 p194 q194; obtain rfl : ad191 = ad194 := (by injection e194); replace p194 := eq_true p194; replace q194 := eq_true q194; have p195 : 0 ≤ (((rd_T55 t187 x14_3).f1) : Int) := ofDec; have q195 : ((rd_T55 t187 x14_3).f1) < (l2.length : Int) := ofDec; obtain ⟨ad195, e195, hx195_0⟩ := Kd.at_string HR2.out ((rd_T55 t187 x14_3).f1) p195 q195; cases e195; replace hx195_0 := (HB.out.cell (World.block_lt_of_cell? w _ hx195_0)).trans hx195_0; replace p195 := eq_true p195; replace q195 := eq_true q195) | (go_at_call 19; (with_reducible refine (selvageref01_Whole.calls (rdOf ByteArray.empty l2 ((rd_T55 t187 x14_3).f1)) t196 _ A26.out).mono ?_); rintro e w' ⟨rfl, ⟨nd, rfl⟩⟩; (try exact drwOk))))
        go_roundg k3
        case measure => have := HJ4.out; have := HJ7.out; have := HK3.out; omega
        case rel => exact ⟨(wrap64 (x14_3 + 1)), eqNow, H', ⟨by have := HJ4.out; have := HJ7.out; have := HK3.out; omega⟩, ⟨kdMv HO_10⟩, ⟨kdMv HO_12⟩, ⟨belNow⟩⟩
       have H' := Aside0.mk H
       clear H
       obtain ⟨Ao30, co30, eo30⟩ := Kd.R_slice HO_12.out
       subst eo30
       go_wp2
       repeat (go_quiet (fail); try go_wp2)
       go_loopg [15, 16, 17] k3 (fun kq v15 v16 v17 w' => ∃ (x15_4 : List (S41)) (x16_4 : Int) (x17_4 : Int), v16 = .int .i64 x16_4 ∧ v17 = .int .i64 x17_4 ∧ Aside0 (selvageref10_Build.l1 kq l1 l2 a3 t183 x15_4 x16_4 x17_4 = some (r1, r2)) ∧ Aside0 (kq ≤ k3) ∧ Aside0 (Kd.R k57 57 w' w.heap.size (fun _ => True) (.slice Ao17 t183.length co17) t183) ∧ Aside0 (Kd.S k41 41 w' w.heap.size (fun _ => True) v15 x15_4) ∧ Aside0 (Below w.heap.size w w'))
       case atStart => exact ⟨(([] : List (S41))), (0), (1), eqNow, eqNow, H', ⟨Nat.le_refl _⟩, ⟨kdMv HO_10⟩, ⟨kNil⟩, ⟨belNow⟩⟩
       case round =>
        clear H'
        try clear c1
        try clear c2
        try clear c7
        try clear c12
        try clear c14
        try clear c14b0
        try clear c14b1
        try clear c19
        try clear c19b0
        obtain ⟨x15_4, x16_4, x17_4, rfl, rfl, HA, HK4, HO_10, HO_15, HB⟩ := hrel
        cases gk with
        | zero => exact absurd HA.out (by simp [selvageref10_Build.l1])
        | succ k4 =>
         have H := HA.out
         clear HA
         simp only [selvageref10_Build.l1] at H
         replace H := itLn H
         rcases H with ⟨-, c31b0, H⟩ | ⟨-, c31b0, H⟩
         ·simp only [Option.some.injEq, Prod.mk.injEq] at H
          obtain ⟨rfl, rfl⟩ := H
          go_wp2
          repeat (go_quiet (fail); try go_wp2)
          go_ret2
          exact ⟨_, eqEnd, by (with_reducible repeat (first | apply Kd.S_alloc | apply Kd.S_drewN | apply Kd.S_drew)); exact HO_15.out, belNow⟩
         replace H := itE H
         rcases H with ⟨-, c32b0, c32b1, H⟩ | ⟨c32, c32b0, c32b1, H⟩
         ·replace H := itLn H
          rcases H with ⟨_, _, H⟩ | ⟨c33, -, H⟩
          ·cases H
          have c33b0 := eq_true c33
          have c33b1 : decide (0 ≤ x16_4) = true := decide_eq_true c33
          clear c33
          replace H := itLn H
          rcases H with ⟨_, _, H⟩ | ⟨c34, -, H⟩
          ·cases H
          have c34b0 := eq_true c34
          have c34b1 : decide (x16_4 ≤ x17_4) = true := decide_eq_true c34
          clear c34
          have c35b0 := eq_true (ofDec : x17_4 ≤ (t183.length : Int))
          obtain ⟨y197, hy197⟩ : ∃ y_ : List (S57), y_ = ((t183.take (x17_4 : Int).toNat).drop (x16_4 : Int).toNat) := ⟨_, rfl⟩
          replace H : ((selvageref10_one.f k4 y197 l1 l2 a3).bind fun bt201 => (if x15_4.length < 1954687338268 then (selvageref10_Build.l1 k4 l1 l2 a3 t183 (x15_4 ++ [(⟨bt201.1, bt201.2.1, bt201.2.2.1, bt201.2.2.2.1, bt201.2.2.2.2.1, bt201.2.2.2.2.2⟩ : S41)]) x17_4 (wrap64 (x17_4 + 1))) else (none))) = some (r1, r2) := by first | (rw [hy197]; with_reducible exact H) | (have H2_ := (Option.bind_some _ _).symm.trans H; rw [hy197]; with_reducible exact H2_) | (have H2_ := (Option.bind_some _ _).symm.trans H; with_reducible exact H2_) | with_reducible exact H | (rw [hy197]; exact H) | exact H
          have Ny197 := Aside0.mk hy197
          clear hy197
          replace H := bdS H
          obtain ⟨⟨t201, t202, t203, t204, t205, t206⟩, A36, H⟩ := H
          replace H : (if x15_4.length < 1954687338268 then (selvageref10_Build.l1 k4 l1 l2 a3 t183 (x15_4 ++ [(⟨t201, t202, t203, t204, t205, t206⟩ : S41)]) x17_4 (wrap64 (x17_4 + 1))) else (none)) = some (r1, r2) := H
          replace H := itLn H
          rcases H with ⟨_, _, H⟩ | ⟨c37, -, H⟩
          ·cases H
          have LMc37 := Aside0.mk c37
          clear c37
          obtain ⟨y209, hy209⟩ : ∃ y_ : List (S41), y_ = (x15_4 ++ [(⟨t201, t202, t203, t204, t205, t206⟩ : S41)]) := ⟨_, rfl⟩
          replace H : (selvageref10_Build.l1 k4 l1 l2 a3 t183 y209 x17_4 (wrap64 (x17_4 + 1))) = some (r1, r2) := by first | (rw [hy209]; with_reducible exact H) | (have H2_ := (Option.bind_some _ _).symm.trans H; rw [hy209]; with_reducible exact H2_) | (have H2_ := (Option.bind_some _ _).symm.trans H; with_reducible exact H2_) | with_reducible exact H | (rw [hy209]; exact H) | exact H
          have Ny209 := Aside0.mk hy209
          clear hy209
          have H' := Aside0.mk H
          clear H
          have q38 : (x17_4 : Int) ≤ ((t183.length : Int) : Int) := ofDec
          obtain ⟨i038, hi038, _, hsz38, _⟩ := info_parts info57
          have hroom38 : t183.length ≤ co17 := (Kd.R_reads' HO_10.out).2.1
          have hC38 : Kd.C k57 _ Ao17 t183.length t183 := (Kd.R_reads' HO_10.out).2.2
          have ql38 : (x16_4 : Int) ≤ (x17_4 : Int) := ofDec
          have q038 : (0 : Int) ≤ (x16_4 : Int) := ofDec
          have hcut38 := cut_mid (P := Try.prog) 22 57 .i64 .i64 Try.underlying22 hi038 4 hsz38 Ao17 t183.length co17 x16_4 x17_4 q038 ql38 q38 hroom38
          have hr38 := Kd.C_mid (lo := (x16_4 : Int).toNat) (hi := (x17_4 : Int).toNat) (c := co17) hC38 (by omega) (by omega) hroom38
          obtain ⟨A38, hA38⟩ : ∃ A1, A1 = (if co17 = (x16_4 : Int).toNat then Ao17 else (Ao17 : Option Addr).map (·.add ((x16_4 : Int).toNat * 4))) := ⟨_, rfl⟩
          obtain ⟨c38, hc38⟩ : ∃ c1, c1 = co17 - (x16_4 : Int).toNat := ⟨_, rfl⟩
          have hy38 : y197.length = (x17_4 : Int).toNat - (x16_4 : Int).toNat := (by rw [Ny197.out, List.length_drop, List.length_take] <;> omega)
          rw [show ((t183).take (x17_4 : Int).toNat).drop (x16_4 : Int).toNat = y197 from Ny197.out.symm] at hr38
          replace hr38 : Kd.C k57 _ A38 y197.length y197 := (by rw [hA38]; exact hr38)
          rw [← hy38, ← hA38, ← hc38] at hcut38
          have HR200 := Aside0.mk hr38
          have HC200 := Aside0.mk (show y197.length ≤ c38 from by rw [hy38, hc38]; exact Nat.sub_le_sub_right (Nat.le_trans (by omega) hroom38) _)
          clear hr38 hC38 hroom38 hi038 hsz38 hc38
          have KY38 := Aside0.mk hy38
          have KA38 := Aside0.mk hA38
          clear hy38 hA38
          have KL38 := Aside0.mk (show (x17_4 : Int).toNat ≤ t183.length from by omega)
          have KM38 := Aside0.mk (show (x16_4 : Int).toNat ≤ (x17_4 : Int).toNat from by omega)
          replace q38 := eq_true q38
          go_wp2_with (first | (go_at_call 20; (with_reducible refine (selvageref10_one.calls k4 _ _ y197 _ _ l1 _ _ l2 a3 t201 t202 t203 t204 t205 t206 _ ?side1 ?side2 ?side3 ?side4 ?side5 ?side6 A36.out).mono ?_); (case side1 => repeat (first | exact (by repeat (first | (with_reducible exact HR200.out) | (with_reducible refine Kd.C_alloc ?_ _) | (with_reducible refine Kd.C_drewN ?_ _) | (with_reducible refine Kd.C_drew ?_) | exact HR200.out)) | (with_reducible refine Kd.C_alloc ?_ _) | (with_reducible refine Kd.C_drewN ?_ _) | (with_reducible refine Kd.C_drew ?_))); (case side2 => exact HC200.out); (case side3 => exact kcU HR1 HB); (case side4 => exact HC1.out); (case side5 => exact kcU HR2 HB); (case side6 => exact HC2.out); rintro e w39 ⟨v207, rfl, ho0, hb⟩; replace HO_10 := Aside0.mk (Kd.R_below (kdUp HO_10.out) hb); replace HO_15 := Aside0.mk (Kd.S_elder' (by (with_reducible repeat (first | apply Kd.S_alloc | apply Kd.S_drewN | apply Kd.S_drew)); exact HO_15.out) (Kd.R_base ho0) hb); have HO208 := Aside0.mk (Kd.R_lower ho0 (below_size belNow)); replace HR200 := Aside0.mk (Kd.C_below (by repeat (first | (with_reducible exact HR200.out) | (with_reducible refine Kd.C_alloc ?_ _) | (with_reducible refine Kd.C_drewN ?_ _) | (with_reducible refine Kd.C_drew ?_) | exact HR200.out)) hb); replace HB := hbD HB hb; clear hb; (try clear ho0); obtain ⟨Ao41, co41, eo41⟩ := Kd.R_slice HO208.out; subst eo41) | ((with_reducible refine gate_builtin (b := .append) (xs := #[.tmp 112, .tmp 121]) rfl ?_); at_builtin; refine Kd.S_append k41 (w0 := w) w.heap.size rfl (.tmp 112) (.tmp 121) 26 41 (.agg #[(.int .i64 0), (.int .i64 0), (.int .i64 0), (.int .i64 0), (.string ⟨#[]⟩), (.slice none 0 0)]) 72 rfl Try.underlying26 info41 rfl (by decide) (by omega) u15 x15_4 (⟨t201, t202, t203, t204, t205, t206⟩ : S41) [.int .i64 t201, .int .i64 t202, .int .i64 t203, .int .i64 t204, .string t205, .slice Ao41 t206.length co41] (fun _ => True) (fun k_ => some k_ = (.slice Ao41 t206.length co41 : Value).ownBlock) rfl rfl ?aP (fun k_ hk_ => ((Kd.R_mono (ok' := fun k_ => ((fun _ => True)) k_ ∧ some k_ ≠ (u15 : Value).ownBlock) (Kd.R_apart' (HO208.out) (Kd.S_typed HO_15.out) (by decide)) (fun k_ hk => ⟨trivial, hk.2⟩))).1 k_ hk_.symm) ?aF ?aO ?aB ?aS ?aL ?_; (case aP => exact k41_mkM _ _ _ (⟨t201, t202, t203, t204, t205, t206⟩ : S41) (Kd.R_mono (Kd.R_tight rfl (Kd.R_mono (ok' := fun k_ => ((fun _ => True)) k_ ∧ some k_ ≠ (u15 : Value).ownBlock) (Kd.R_apart' (HO208.out) (Kd.S_typed HO_15.out) (by decide)) (fun k_ hk => ⟨trivial, hk.2⟩))) (fun _ h_ => h_))); (case aB => exact belNow); (case aF => exact (fun _ _ => trivial)); (case aO => exact (by (with_reducible repeat (first | apply Kd.S_alloc | apply Kd.S_drewN | apply Kd.S_drew)); exact Kd.S_mono HO_15.out (fun k_ hk => ⟨trivial, fun e_ => hk.2 e_⟩))); (case aS => exact (below_size belNow)); (case aL => have := LMc37.out; omega); intro v210 w40 ho hb hg hat; rw [← Ny209.out] at ho; replace HB := Aside0.mk hb; replace HR200 := Aside0.mk ((show Kd.C k57 w40 A38 y197.length y197 from by rw [Ny197.out, KA38.out]; exact Kd.C_mid (lo := (x16_4 : Int).toNat) (hi := (x17_4 : Int).toNat) (c := co17) ((Kd.R_reads' (Kd.R_over' (kdUp HO_10.out) (Kd.S_typed (by (with_reducible repeat (first | apply Kd.S_alloc | apply Kd.S_drewN | apply Kd.S_drew)); exact HO_15.out)) (by decide) hg)).2.2) KM38.out KL38.out ((Kd.R_reads' (Kd.R_over' (kdUp HO_10.out) (Kd.S_typed (by (with_reducible repeat (first | apply Kd.S_alloc | apply Kd.S_drewN | apply Kd.S_drew)); exact HO_15.out)) (by decide) hg)).2.1))); replace HO_10 := Aside0.mk (Kd.R_over' (kdUp HO_10.out) (Kd.S_typed (by (with_reducible repeat (first | apply Kd.S_alloc | apply Kd.S_drewN | apply Kd.S_drew)); exact HO_15.out)) (by decide) hg); have HO211 := Aside0.mk (ho); clear HO_15 HO208; clear ho hb hg hat))
          repeat (go_quiet (first | (go_at_call 20; (with_reducible refine (selvageref10_one.calls k4 _ _ y197 _ _ l1 _ _ l2 a3 t201 t202 t203 t204 t205 t206 _ ?side1 ?side2 ?side3 ?side4 ?side5 ?side6 A36.out).mono ?_); (case side1 => repeat (first | exact (by repeat (first | (with_reducible exact HR200.out) | (with_reducible refine Kd.C_alloc ?_ _) | (with_reducible refine Kd.C_drewN ?_ _) | (with_reducible refine Kd.C_drew ?_) | exact HR200.out)) | (with_reducible refine Kd.C_alloc ?_ _) | (with_reducible refine Kd.C_drewN ?_ _) | (with_reducible refine Kd.C_drew ?_))); (case side2 => exact HC200.out); (case side3 => exact kcU HR1 HB); (case side4 => exact HC1.out); (case side5 => exact kcU HR2 HB); (case side6 => exact HC2.out); rintro e w39 ⟨v207, rfl, ho0, hb⟩; replace HO_10 := Aside0.mk (Kd.R_below (kdUp HO_10.out) hb); replace HO_15 := Aside0.mk (Kd.S_elder' (by (with_reducible repeat (first | apply Kd.S_alloc | apply Kd.S_drewN | apply Kd.S_drew)); exact HO_15.out) (Kd.R_base ho0) hb); have HO208 := Aside0.mk (Kd.R_lower ho0 (below_size belNow)); replace HR200 := Aside0.mk (Kd.C_below (by repeat (first | (with_reducible exact HR200.out) | (with_reducible refine Kd.C_alloc ?_ _) | (with_reducible refine Kd.C_drewN ?_ _) | (with_reducible refine Kd.C_drew ?_) | exact HR200.out)) hb); replace HB := hbD HB hb; clear hb; (try clear ho0); obtain ⟨Ao41, co41, eo41⟩ := Kd.R_slice HO208.out; subst eo41) | ((with_reducible refine gate_builtin (b := .append) (xs := #[.tmp 112, .tmp 121]) rfl ?_); at_builtin; refine Kd.S_append k41 (w0 := w) w.heap.size rfl (.tmp 112) (.tmp 121) 26 41 (.agg #[(.int .i64 0), (.int .i64 0), (.int .i64 0), (.int .i64 0), (.string ⟨#[]⟩), (.slice none 0 0)]) 72 rfl Try.underlying26 info41 rfl (by decide) (by omega) u15 x15_4 (⟨t201, t202, t203, t204, t205, t206⟩ : S41) [.int .i64 t201, .int .i64 t202, .int .i64 t203, .int .i64 t204, .string t205, .slice Ao41 t206.length co41] (fun _ => True) (fun k_ => some k_ = (.slice Ao41 t206.length co41 : Value).ownBlock) rfl rfl ?aP (fun k_ hk_ => ((Kd.R_mono (ok' := fun k_ => ((fun _ => True)) k_ ∧ some k_ ≠ (u15 : Value).ownBlock) (Kd.R_apart' (HO208.out) (Kd.S_typed HO_15.out) (by decide)) (fun k_ hk => ⟨trivial, hk.2⟩))).1 k_ hk_.symm) ?aF ?aO ?aB ?aS ?aL ?_; (case aP => exact k41_mkM _ _ _ (⟨t201, t202, t203, t204, t205, t206⟩ : S41) (Kd.R_mono (Kd.R_tight rfl (Kd.R_mono (ok' := fun k_ => ((fun _ => True)) k_ ∧ some k_ ≠ (u15 : Value).ownBlock) (Kd.R_apart' (HO208.out) (Kd.S_typed HO_15.out) (by decide)) (fun k_ hk => ⟨trivial, hk.2⟩))) (fun _ h_ => h_))); (case aB => exact belNow); (case aF => exact (fun _ _ => trivial)); (case aO => exact (by (with_reducible repeat (first | apply Kd.S_alloc | apply Kd.S_drewN | apply Kd.S_drew)); exact Kd.S_mono HO_15.out (fun k_ hk => ⟨trivial, fun e_ => hk.2 e_⟩))); (case aS => exact (below_size belNow)); (case aL => have := LMc37.out; omega); intro v210 w40 ho hb hg hat; rw [← Ny209.out] at ho; replace HB := Aside0.mk hb; replace HR200 := Aside0.mk ((show Kd.C k57 w40 A38 y197.length y197 from by rw [Ny197.out, KA38.out]; exact Kd.C_mid (lo := (x16_4 : Int).toNat) (hi := (x17_4 : Int).toNat) (c := co17) ((Kd.R_reads' (Kd.R_over' (kdUp HO_10.out) (Kd.S_typed (by (with_reducible repeat (first | apply Kd.S_alloc | apply Kd.S_drewN | apply Kd.S_drew)); exact HO_15.out)) (by decide) hg)).2.2) KM38.out KL38.out ((Kd.R_reads' (Kd.R_over' (kdUp HO_10.out) (Kd.S_typed (by (with_reducible repeat (first | apply Kd.S_alloc | apply Kd.S_drewN | apply Kd.S_drew)); exact HO_15.out)) (by decide) hg)).2.1))); replace HO_10 := Aside0.mk (Kd.R_over' (kdUp HO_10.out) (Kd.S_typed (by (with_reducible repeat (first | apply Kd.S_alloc | apply Kd.S_drewN | apply Kd.S_drew)); exact HO_15.out)) (by decide) hg); have HO211 := Aside0.mk (ho); clear HO_15 HO208; clear ho hb hg hat)); try go_wp2_with (first | (go_at_call 20; (with_reducible refine (selvageref10_one.calls k4 _ _ y197 _ _ l1 _ _ l2 a3 t201 t202 t203 t204 t205 t206 _ ?side1 ?side2 ?side3 ?side4 ?side5 ?side6 A36.out).mono ?_); (case side1 => repeat (first | exact (by repeat (first | (with_reducible exact HR200.out) | (with_reducible refine Kd.C_alloc ?_ _) | (with_reducible refine Kd.C_drewN ?_ _) | (with_reducible refine Kd.C_drew ?_) | exact HR200.out)) | (with_reducible refine Kd.C_alloc ?_ _) | (with_reducible refine Kd.C_drewN ?_ _) | (with_reducible refine Kd.C_drew ?_))); (case side2 => exact HC200.out); (case side3 => exact kcU HR1 HB); (case side4 => exact HC1.out); (case side5 => exact kcU HR2 HB); (case side6 => exact HC2.out); rintro e w39 ⟨v207, rfl, ho0, hb⟩; replace HO_10 := Aside0.mk (Kd.R_below (kdUp HO_10.out) hb); replace HO_15 := Aside0.mk (Kd.S_elder' (by (with_reducible repeat (first | apply Kd.S_alloc | apply Kd.S_drewN | apply Kd.S_drew)); exact HO_15.out) (Kd.R_base ho0) hb); have HO208 := Aside0.mk (Kd.R_lower ho0 (below_size belNow)); replace HR200 := Aside0.mk (Kd.C_below (by repeat (first | (with_reducible exact HR200.out) | (with_reducible refine Kd.C_alloc ?_ _) | (with_reducible refine Kd.C_drewN ?_ _) | (with_reducible refine Kd.C_drew ?_) | exact HR200.out)) hb); replace HB := hbD HB hb; clear hb; (try clear ho0); obtain ⟨Ao41, co41, eo41⟩ := Kd.R_slice HO208.out; subst eo41) | ((with_reducible refine gate_builtin (b := .append) (xs := #[.tmp 112, .tmp 121]) rfl ?_); at_builtin; refine Kd.S_append k41 (w0 := w) w.heap.size rfl (.tmp 112) (.tmp 121) 26 41 (.agg #[(.int .i64 0), (.int .i64 0), (.int .i64 0), (.int .i64 0), (.string ⟨#[]⟩), (.slice none 0 0)]) 72 rfl Try.underlying26 info41 rfl (by decide) (by omega) u15 x15_4 (⟨t201, t202, t203, t204, t205, t206⟩ : S41) [.int .i64 t201, .int .i64 t202, .int .i64 t203, .int .i64 t204, .string t205, .slice Ao41 t206.length co41] (fun _ => True) (fun k_ => some k_ = (.slice Ao41 t206.length co41 : Value).ownBlock) rfl rfl ?aP (fun k_ hk_ => ((Kd.R_mono (ok' := fun k_ => ((fun _ => True)) k_ ∧ some k_ ≠ (u15 : Value).ownBlock) (Kd.R_apart' (HO208.out) (Kd.S_typed HO_15.out) (by decide)) (fun k_ hk => ⟨trivial, hk.2⟩))).1 k_ hk_.symm) ?aF ?aO ?aB ?aS ?aL ?_; (case aP => exact k41_mkM _ _ _ (⟨t201, t202, t203, t204, t205, t206⟩ : S41) (Kd.R_mono (Kd.R_tight rfl (Kd.R_mono (ok' := fun k_ => ((fun _ => True)) k_ ∧ some k_ ≠ (u15 : Value).ownBlock) (Kd.R_apart' (HO208.out) (Kd.S_typed HO_15.out) (by decide)) (fun k_ hk => ⟨trivial, hk.2⟩))) (fun _ h_ => h_))); (case aB => exact belNow); (case aF => exact (fun _ _ => trivial)); (case aO => exact (by (with_reducible repeat (first | apply Kd.S_alloc | apply Kd.S_drewN | apply Kd.S_drew)); exact Kd.S_mono HO_15.out (fun k_ hk => ⟨trivial, fun e_ => hk.2 e_⟩))); (case aS => exact (below_size belNow)); (case aL => have := LMc37.out; omega); intro v210 w40 ho hb hg hat; rw [← Ny209.out] at ho; replace HB := Aside0.mk hb; replace HR200 := Aside0.mk ((show Kd.C k57 w40 A38 y197.length y197 from by rw [Ny197.out, KA38.out]; exact Kd.C_mid (lo := (x16_4 : Int).toNat) (hi := (x17_4 : Int).toNat) (c := co17) ((Kd.R_reads' (Kd.R_over' (kdUp HO_10.out) (Kd.S_typed (by (with_reducible repeat (first | apply Kd.S_alloc | apply Kd.S_drewN | apply Kd.S_drew)); exact HO_15.out)) (by decide) hg)).2.2) KM38.out KL38.out ((Kd.R_reads' (Kd.R_over' (kdUp HO_10.out) (Kd.S_typed (by (with_reducible repeat (first | apply Kd.S_alloc | apply Kd.S_drewN | apply Kd.S_drew)); exact HO_15.out)) (by decide) hg)).2.1))); replace HO_10 := Aside0.mk (Kd.R_over' (kdUp HO_10.out) (Kd.S_typed (by (with_reducible repeat (first | apply Kd.S_alloc | apply Kd.S_drewN | apply Kd.S_drew)); exact HO_15.out)) (by decide) hg); have HO211 := Aside0.mk (ho); clear HO_15 HO208; clear ho hb hg hat)))
          go_roundg k4
          case measure => have := HJ4.out; have := HJ7.out; have := HK3.out; have := HK4.out; omega
          case rel => exact ⟨(y209), (x17_4), (wrap64 (x17_4 + 1)), eqNow, eqNow, H', ⟨by have := HJ4.out; have := HJ7.out; have := HK3.out; have := HK4.out; omega⟩, ⟨kdMv HO_10⟩, ⟨kdMv HO211⟩, ⟨belNow⟩⟩
         replace H := itLn H
         rcases H with ⟨_, _, H⟩ | ⟨-, c42b0, H⟩
         ·cases H
         replace H := itLn H
         rcases H with ⟨_, _, H⟩ | ⟨-, c43b0, H⟩
         ·cases H
         obtain ⟨ji44, hji44⟩ : ∃ j_ : Int, (wrap64 (x17_4 - 1)) = j_ := ⟨_, rfl⟩
         first | rw [hji44] at H | simp only [hji44] at H
         have hji44w : (IntKind.i64.wrap (x17_4 - 1)) = ji44 := (i64_w _).trans hji44
         replace H := itLn H
         rcases H with ⟨_, _, H⟩ | ⟨-, c45b0, H⟩
         ·cases H
         replace H := itLn H
         rcases H with ⟨_, _, H⟩ | ⟨-, c46b0, H⟩
         ·cases H
         replace H := itGn H
         rcases H with ⟨-, c47b0, H⟩ | ⟨-, c47b0, H⟩
         ·have H' := Aside0.mk H
          clear H
          have p212 : 0 ≤ (x17_4 : Int) := ofDec
          have q212 : x17_4 < (t183.length : Int) := ofDec
          obtain ⟨ad212, e212, hx212_0, hx212_1, hx212_2, hx212_3⟩ := at_T57 (Kd.R_reads' HO_10.out).2.2 x17_4 p212 q212
          cases e212
          replace p212 := eq_true p212
          replace q212 := eq_true q212
          have p213 : 0 ≤ ((ji44) : Int) := ofDec
          have q213 : (ji44) < (t183.length : Int) := ofDec
          obtain ⟨ad213, e213, hx213_0, hx213_1, hx213_2, hx213_3⟩ := at_T57 (Kd.R_reads' HO_10.out).2.2 (ji44) p213 q213
          obtain rfl : ad212 = ad213 := (by injection e213)
          replace p213 := eq_true p213
          replace q213 := eq_true q213
          have p214 : 0 ≤ ((ji44) : Int) := ofDec
          have q214 : (ji44) < (t183.length : Int) := ofDec
          obtain ⟨ad214, e214, hx214_0, hx214_1, hx214_2, hx214_3⟩ := at_T57 (Kd.R_reads' HO_10.out).2.2 (ji44) p214 q214
          obtain rfl : ad212 = ad214 := (by injection e214)
          replace p214 := eq_true p214
          replace q214 := eq_true q214
          go_wp2
          repeat (go_quiet (fail); try go_wp2)
          go_roundg k4
          case measure => have := HJ4.out; have := HJ7.out; have := HK3.out; have := HK4.out; omega
          case rel => exact ⟨(x15_4), (x16_4), (wrap64 (x17_4 + 1)), eqNow, eqNow, H', ⟨by have := HJ4.out; have := HJ7.out; have := HK3.out; have := HK4.out; omega⟩, ⟨kdMv HO_10⟩, ⟨kdMv HO_15⟩, ⟨belNow⟩⟩
         replace H := itLn H
         rcases H with ⟨_, _, H⟩ | ⟨c48, -, H⟩
         ·cases H
         have c48b0 := eq_true c48
         have c48b1 : decide (0 ≤ x16_4) = true := decide_eq_true c48
         clear c48
         replace H := itLn H
         rcases H with ⟨_, _, H⟩ | ⟨c49, -, H⟩
         ·cases H
         have c49b0 := eq_true c49
         have c49b1 : decide (x16_4 ≤ x17_4) = true := decide_eq_true c49
         clear c49
         have c50b0 := eq_true (ofDec : x17_4 ≤ (t183.length : Int))
         obtain ⟨y215, hy215⟩ : ∃ y_ : List (S57), y_ = ((t183.take (x17_4 : Int).toNat).drop (x16_4 : Int).toNat) := ⟨_, rfl⟩
         replace H : ((selvageref10_one.f k4 y215 l1 l2 a3).bind fun bt219 => (if x15_4.length < 1954687338268 then (selvageref10_Build.l1 k4 l1 l2 a3 t183 (x15_4 ++ [(⟨bt219.1, bt219.2.1, bt219.2.2.1, bt219.2.2.2.1, bt219.2.2.2.2.1, bt219.2.2.2.2.2⟩ : S41)]) x17_4 (wrap64 (x17_4 + 1))) else (none))) = some (r1, r2) := by first | (rw [hy215]; with_reducible exact H) | (have H2_ := (Option.bind_some _ _).symm.trans H; rw [hy215]; with_reducible exact H2_) | (have H2_ := (Option.bind_some _ _).symm.trans H; with_reducible exact H2_) | with_reducible exact H | (rw [hy215]; exact H) | exact H
         have Ny215 := Aside0.mk hy215
         clear hy215
         replace H := bdS H
         obtain ⟨⟨t219, t220, t221, t222, t223, t224⟩, A51, H⟩ := H
         replace H : (if x15_4.length < 1954687338268 then (selvageref10_Build.l1 k4 l1 l2 a3 t183 (x15_4 ++ [(⟨t219, t220, t221, t222, t223, t224⟩ : S41)]) x17_4 (wrap64 (x17_4 + 1))) else (none)) = some (r1, r2) := H
         replace H := itLn H
         rcases H with ⟨_, _, H⟩ | ⟨c52, -, H⟩
         ·cases H
         have LMc52 := Aside0.mk c52
         clear c52
         obtain ⟨y227, hy227⟩ : ∃ y_ : List (S41), y_ = (x15_4 ++ [(⟨t219, t220, t221, t222, t223, t224⟩ : S41)]) := ⟨_, rfl⟩
         replace H : (selvageref10_Build.l1 k4 l1 l2 a3 t183 y227 x17_4 (wrap64 (x17_4 + 1))) = some (r1, r2) := by first | (rw [hy227]; with_reducible exact H) | (have H2_ := (Option.bind_some _ _).symm.trans H; rw [hy227]; with_reducible exact H2_) | (have H2_ := (Option.bind_some _ _).symm.trans H; with_reducible exact H2_) | with_reducible exact H | (rw [hy227]; exact H) | exact H
         have Ny227 := Aside0.mk hy227
         clear hy227
         have H' := Aside0.mk H
         clear H
         have p212 : 0 ≤ (x17_4 : Int) := ofDec
         have q212 : x17_4 < (t183.length : Int) := ofDec
         obtain ⟨ad212, e212, hx212_0, hx212_1, hx212_2, hx212_3⟩ := at_T57 (Kd.R_reads' HO_10.out).2.2 x17_4 p212 q212
         cases e212
         replace p212 := eq_true p212
         replace q212 := eq_true q212
         have p213 : 0 ≤ ((ji44) : Int) := ofDec
         have q213 : (ji44) < (t183.length : Int) := ofDec
         obtain ⟨ad213, e213, hx213_0, hx213_1, hx213_2, hx213_3⟩ := at_T57 (Kd.R_reads' HO_10.out).2.2 (ji44) p213 q213
         obtain rfl : ad212 = ad213 := (by injection e213)
         replace p213 := eq_true p213
         replace q213 := eq_true q213
         have p214 : 0 ≤ ((ji44) : Int) := ofDec
         have q214 : (ji44) < (t183.length : Int) := ofDec
         obtain ⟨ad214, e214, hx214_0, hx214_1, hx214_2, hx214_3⟩ := at_T57 (Kd.R_reads' HO_10.out).2.2 (ji44) p214 q214
         obtain rfl : ad212 = ad214 := (by injection e214)
         replace p214 := eq_true p214
         replace q214 := eq_true q214
         have q53 : (x17_4 : Int) ≤ ((t183.length : Int) : Int) := ofDec
         obtain ⟨i053, hi053, _, hsz53, _⟩ := info_parts info57
         have hroom53 : t183.length ≤ co17 := (Kd.R_reads' HO_10.out).2.1
         have hC53 : Kd.C k57 _ (some ad212) t183.length t183 := (Kd.R_reads' HO_10.out).2.2
         have ql53 : (x16_4 : Int) ≤ (x17_4 : Int) := ofDec
         have q053 : (0 : Int) ≤ (x16_4 : Int) := ofDec
         have hcut53 := cut_mid (P := Try.prog) 22 57 .i64 .i64 Try.underlying22 hi053 4 hsz53 (some ad212) t183.length co17 x16_4 x17_4 q053 ql53 q53 hroom53
         have hr53 := Kd.C_mid (lo := (x16_4 : Int).toNat) (hi := (x17_4 : Int).toNat) (c := co17) hC53 (by omega) (by omega) hroom53
         obtain ⟨A53, hA53⟩ : ∃ A1, A1 = (if co17 = (x16_4 : Int).toNat then (some ad212) else ((some ad212) : Option Addr).map (·.add ((x16_4 : Int).toNat * 4))) := ⟨_, rfl⟩
         obtain ⟨c53, hc53⟩ : ∃ c1, c1 = co17 - (x16_4 : Int).toNat := ⟨_, rfl⟩
         have hy53 : y215.length = (x17_4 : Int).toNat - (x16_4 : Int).toNat := (by rw [Ny215.out, List.length_drop, List.length_take] <;> omega)
         rw [show ((t183).take (x17_4 : Int).toNat).drop (x16_4 : Int).toNat = y215 from Ny215.out.symm] at hr53
         replace hr53 : Kd.C k57 _ A53 y215.length y215 := (by rw [hA53]; exact hr53)
         rw [← hy53, ← hA53, ← hc53] at hcut53
         have HR218 := Aside0.mk hr53
         have HC218 := Aside0.mk (show y215.length ≤ c53 from by rw [hy53, hc53]; exact Nat.sub_le_sub_right (Nat.le_trans (by omega) hroom53) _)
         clear hr53 hC53 hroom53 hi053 hsz53 hc53
         have KY53 := Aside0.mk hy53
         have KA53 := Aside0.mk hA53
         clear hy53 hA53
         have KL53 := Aside0.mk (show (x17_4 : Int).toNat ≤ t183.length from by omega)
         have KM53 := Aside0.mk (show (x16_4 : Int).toNat ≤ (x17_4 : Int).toNat from by omega)
         replace q53 := eq_true q53
         go_wp2_with (first | (go_at_call 20; (with_reducible refine (selvageref10_one.calls k4 _ _ y215 _ _ l1 _ _ l2 a3 t219 t220 t221 t222 t223 t224 _ ?side1 ?side2 ?side3 ?side4 ?side5 ?side6 A51.out).mono ?_); (case side1 => repeat (first | exact (by repeat (first | (with_reducible exact HR218.out) | (with_reducible refine Kd.C_alloc ?_ _) | (with_reducible refine Kd.C_drewN ?_ _) | (with_reducible refine Kd.C_drew ?_) | exact HR218.out)) | (with_reducible refine Kd.C_alloc ?_ _) | (with_reducible refine Kd.C_drewN ?_ _) | (with_reducible refine Kd.C_drew ?_))); (case side2 => exact HC218.out); (case side3 => exact kcU HR1 HB); (case side4 => exact HC1.out); (case side5 => exact kcU HR2 HB); (case side6 => exact HC2.out); rintro e w54 ⟨v225, rfl, ho0, hb⟩; replace HO_10 := Aside0.mk (Kd.R_below (kdUp HO_10.out) hb); replace HO_15 := Aside0.mk (Kd.S_elder' (by (with_reducible repeat (first | apply Kd.S_alloc | apply Kd.S_drewN | apply Kd.S_drew)); exact HO_15.out) (Kd.R_base ho0) hb); have HO226 := Aside0.mk (Kd.R_lower ho0 (below_size belNow)); replace HR218 := Aside0.mk (Kd.C_below (by repeat (first | (with_reducible exact HR218.out) | (with_reducible refine Kd.C_alloc ?_ _) | (with_reducible refine Kd.C_drewN ?_ _) | (with_reducible refine Kd.C_drew ?_) | exact HR218.out)) hb); replace HB := hbD HB hb; clear hb; (try clear ho0); obtain ⟨Ao56, co56, eo56⟩ := Kd.R_slice HO226.out; subst eo56) | ((with_reducible refine gate_builtin (b := .append) (xs := #[.tmp 112, .tmp 121]) rfl ?_); at_builtin; refine Kd.S_append k41 (w0 := w) w.heap.size rfl (.tmp 112) (.tmp 121) 26 41 (.agg #[(.int .i64 0), (.int .i64 0), (.int .i64 0), (.int .i64 0), (.string ⟨#[]⟩), (.slice none 0 0)]) 72 rfl Try.underlying26 info41 rfl (by decide) (by omega) u15 x15_4 (⟨t219, t220, t221, t222, t223, t224⟩ : S41) [.int .i64 t219, .int .i64 t220, .int .i64 t221, .int .i64 t222, .string t223, .slice Ao56 t224.length co56] (fun _ => True) (fun k_ => some k_ = (.slice Ao56 t224.length co56 : Value).ownBlock) rfl rfl ?aP (fun k_ hk_ => ((Kd.R_mono (ok' := fun k_ => ((fun _ => True)) k_ ∧ some k_ ≠ (u15 : Value).ownBlock) (Kd.R_apart' (HO226.out) (Kd.S_typed HO_15.out) (by decide)) (fun k_ hk => ⟨trivial, hk.2⟩))).1 k_ hk_.symm) ?aF ?aO ?aB ?aS ?aL ?_; (case aP => exact k41_mkM _ _ _ (⟨t219, t220, t221, t222, t223, t224⟩ : S41) (Kd.R_mono (Kd.R_tight rfl (Kd.R_mono (ok' := fun k_ => ((fun _ => True)) k_ ∧ some k_ ≠ (u15 : Value).ownBlock) (Kd.R_apart' (HO226.out) (Kd.S_typed HO_15.out) (by decide)) (fun k_ hk => ⟨trivial, hk.2⟩))) (fun _ h_ => h_))); (case aB => exact belNow); (case aF => exact (fun _ _ => trivial)); (case aO => exact (by (with_reducible repeat (first | apply Kd.S_alloc | apply Kd.S_drewN | apply Kd.S_drew)); exact Kd.S_mono HO_15.out (fun k_ hk => ⟨trivial, fun e_ => hk.2 e_⟩))); (case aS => exact (below_size belNow)); (case aL => have := LMc52.out; omega); intro v228 w55 ho hb hg hat; rw [← Ny227.out] at ho; replace HB := Aside0.mk hb; replace HR218 := Aside0.mk ((show Kd.C k57 w55 A53 y215.length y215 from by rw [Ny215.out, KA53.out]; exact Kd.C_mid (lo := (x16_4 : Int).toNat) (hi := (x17_4 : Int).toNat) (c := co17) ((Kd.R_reads' (Kd.R_over' (kdUp HO_10.out) (Kd.S_typed (by (with_reducible repeat (first | apply Kd.S_alloc | apply Kd.S_drewN | apply Kd.S_drew)); exact HO_15.out)) (by decide) hg)).2.2) KM53.out KL53.out ((Kd.R_reads' (Kd.R_over' (kdUp HO_10.out) (Kd.S_typed (by (with_reducible repeat (first | apply Kd.S_alloc | apply Kd.S_drewN | apply Kd.S_drew)); exact HO_15.out)) (by decide) hg)).2.1))); replace HO_10 := Aside0.mk (Kd.R_over' (kdUp HO_10.out) (Kd.S_typed (by (with_reducible repeat (first | apply Kd.S_alloc | apply Kd.S_drewN | apply Kd.S_drew)); exact HO_15.out)) (by decide) hg); have HO229 := Aside0.mk (ho); clear HO_15 HO226; clear ho hb hg hat))
         repeat (go_quiet (first | (go_at_call 20; (with_reducible refine (selvageref10_one.calls k4 _ _ y215 _ _ l1 _ _ l2 a3 t219 t220 t221 t222 t223 t224 _ ?side1 ?side2 ?side3 ?side4 ?side5 ?side6 A51.out).mono ?_); (case side1 => repeat (first | exact (by repeat (first | (with_reducible exact HR218.out) | (with_reducible refine Kd.C_alloc ?_ _) | (with_reducible refine Kd.C_drewN ?_ _) | (with_reducible refine Kd.C_drew ?_) | exact HR218.out)) | (with_reducible refine Kd.C_alloc ?_ _) | (with_reducible refine Kd.C_drewN ?_ _) | (with_reducible refine Kd.C_drew ?_))); (case side2 => exact HC218.out); (case side3 => exact kcU HR1 HB); (case side4 => exact HC1.out); (case side5 => exact kcU HR2 HB); (case side6 => exact HC2.out); rintro e w54 ⟨v225, rfl, ho0, hb⟩; replace HO_10 := Aside0.mk (Kd.R_below (kdUp HO_10.out) hb); replace HO_15 := Aside0.mk (Kd.S_elder' (by (with_reducible repeat (first | apply Kd.S_alloc | apply Kd.S_drewN | apply Kd.S_drew)); exact HO_15.out) (Kd.R_base ho0) hb); have HO226 := Aside0.mk (Kd.R_lower ho0 (below_size belNow)); replace HR218 := Aside0.mk (Kd.C_below (by repeat (first | (with_reducible exact HR218.out) | (with_reducible refine Kd.C_alloc ?_ _) | (with_reducible refine Kd.C_drewN ?_ _) | (with_reducible refine Kd.C_drew ?_) | exact HR218.out)) hb); replace HB := hbD HB hb; clear hb; (try clear ho0); obtain ⟨Ao56, co56, eo56⟩ := Kd.R_slice HO226.out; subst eo56) | ((with_reducible refine gate_builtin (b := .append) (xs := #[.tmp 112, .tmp 121]) rfl ?_); at_builtin; refine Kd.S_append k41 (w0 := w) w.heap.size rfl (.tmp 112) (.tmp 121) 26 41 (.agg #[(.int .i64 0), (.int .i64 0), (.int .i64 0), (.int .i64 0), (.string ⟨#[]⟩), (.slice none 0 0)]) 72 rfl Try.underlying26 info41 rfl (by decide) (by omega) u15 x15_4 (⟨t219, t220, t221, t222, t223, t224⟩ : S41) [.int .i64 t219, .int .i64 t220, .int .i64 t221, .int .i64 t222, .string t223, .slice Ao56 t224.length co56] (fun _ => True) (fun k_ => some k_ = (.slice Ao56 t224.length co56 : Value).ownBlock) rfl rfl ?aP (fun k_ hk_ => ((Kd.R_mono (ok' := fun k_ => ((fun _ => True)) k_ ∧ some k_ ≠ (u15 : Value).ownBlock) (Kd.R_apart' (HO226.out) (Kd.S_typed HO_15.out) (by decide)) (fun k_ hk => ⟨trivial, hk.2⟩))).1 k_ hk_.symm) ?aF ?aO ?aB ?aS ?aL ?_; (case aP => exact k41_mkM _ _ _ (⟨t219, t220, t221, t222, t223, t224⟩ : S41) (Kd.R_mono (Kd.R_tight rfl (Kd.R_mono (ok' := fun k_ => ((fun _ => True)) k_ ∧ some k_ ≠ (u15 : Value).ownBlock) (Kd.R_apart' (HO226.out) (Kd.S_typed HO_15.out) (by decide)) (fun k_ hk => ⟨trivial, hk.2⟩))) (fun _ h_ => h_))); (case aB => exact belNow); (case aF => exact (fun _ _ => trivial)); (case aO => exact (by (with_reducible repeat (first | apply Kd.S_alloc | apply Kd.S_drewN | apply Kd.S_drew)); exact Kd.S_mono HO_15.out (fun k_ hk => ⟨trivial, fun e_ => hk.2 e_⟩))); (case aS => exact (below_size belNow)); (case aL => have := LMc52.out; omega); intro v228 w55 ho hb hg hat; rw [← Ny227.out] at ho; replace HB := Aside0.mk hb; replace HR218 := Aside0.mk ((show Kd.C k57 w55 A53 y215.length y215 from by rw [Ny215.out, KA53.out]; exact Kd.C_mid (lo := (x16_4 : Int).toNat) (hi := (x17_4 : Int).toNat) (c := co17) ((Kd.R_reads' (Kd.R_over' (kdUp HO_10.out) (Kd.S_typed (by (with_reducible repeat (first | apply Kd.S_alloc | apply Kd.S_drewN | apply Kd.S_drew)); exact HO_15.out)) (by decide) hg)).2.2) KM53.out KL53.out ((Kd.R_reads' (Kd.R_over' (kdUp HO_10.out) (Kd.S_typed (by (with_reducible repeat (first | apply Kd.S_alloc | apply Kd.S_drewN | apply Kd.S_drew)); exact HO_15.out)) (by decide) hg)).2.1))); replace HO_10 := Aside0.mk (Kd.R_over' (kdUp HO_10.out) (Kd.S_typed (by (with_reducible repeat (first | apply Kd.S_alloc | apply Kd.S_drewN | apply Kd.S_drew)); exact HO_15.out)) (by decide) hg); have HO229 := Aside0.mk (ho); clear HO_15 HO226; clear ho hb hg hat)); try go_wp2_with (first | (go_at_call 20; (with_reducible refine (selvageref10_one.calls k4 _ _ y215 _ _ l1 _ _ l2 a3 t219 t220 t221 t222 t223 t224 _ ?side1 ?side2 ?side3 ?side4 ?side5 ?side6 A51.out).mono ?_); (case side1 => repeat (first | exact (by repeat (first | (with_reducible exact HR218.out) | (with_reducible refine Kd.C_alloc ?_ _) | (with_reducible refine Kd.C_drewN ?_ _) | (with_reducible refine Kd.C_drew ?_) | exact HR218.out)) | (with_reducible refine Kd.C_alloc ?_ _) | (with_reducible refine Kd.C_drewN ?_ _) | (with_reducible refine Kd.C_drew ?_))); (case side2 => exact HC218.out); (case side3 => exact kcU HR1 HB); (case side4 => exact HC1.out); (case side5 => exact kcU HR2 HB); (case side6 => exact HC2.out); rintro e w54 ⟨v225, rfl, ho0, hb⟩; replace HO_10 := Aside0.mk (Kd.R_below (kdUp HO_10.out) hb); replace HO_15 := Aside0.mk (Kd.S_elder' (by (with_reducible repeat (first | apply Kd.S_alloc | apply Kd.S_drewN | apply Kd.S_drew)); exact HO_15.out) (Kd.R_base ho0) hb); have HO226 := Aside0.mk (Kd.R_lower ho0 (below_size belNow)); replace HR218 := Aside0.mk (Kd.C_below (by repeat (first | (with_reducible exact HR218.out) | (with_reducible refine Kd.C_alloc ?_ _) | (with_reducible refine Kd.C_drewN ?_ _) | (with_reducible refine Kd.C_drew ?_) | exact HR218.out)) hb); replace HB := hbD HB hb; clear hb; (try clear ho0); obtain ⟨Ao56, co56, eo56⟩ := Kd.R_slice HO226.out; subst eo56) | ((with_reducible refine gate_builtin (b := .append) (xs := #[.tmp 112, .tmp 121]) rfl ?_); at_builtin; refine Kd.S_append k41 (w0 := w) w.heap.size rfl (.tmp 112) (.tmp 121) 26 41 (.agg #[(.int .i64 0), (.int .i64 0), (.int .i64 0), (.int .i64 0), (.string ⟨#[]⟩), (.slice none 0 0)]) 72 rfl Try.underlying26 info41 rfl (by decide) (by omega) u15 x15_4 (⟨t219, t220, t221, t222, t223, t224⟩ : S41) [.int .i64 t219, .int .i64 t220, .int .i64 t221, .int .i64 t222, .string t223, .slice Ao56 t224.length co56] (fun _ => True) (fun k_ => some k_ = (.slice Ao56 t224.length co56 : Value).ownBlock) rfl rfl ?aP (fun k_ hk_ => ((Kd.R_mono (ok' := fun k_ => ((fun _ => True)) k_ ∧ some k_ ≠ (u15 : Value).ownBlock) (Kd.R_apart' (HO226.out) (Kd.S_typed HO_15.out) (by decide)) (fun k_ hk => ⟨trivial, hk.2⟩))).1 k_ hk_.symm) ?aF ?aO ?aB ?aS ?aL ?_; (case aP => exact k41_mkM _ _ _ (⟨t219, t220, t221, t222, t223, t224⟩ : S41) (Kd.R_mono (Kd.R_tight rfl (Kd.R_mono (ok' := fun k_ => ((fun _ => True)) k_ ∧ some k_ ≠ (u15 : Value).ownBlock) (Kd.R_apart' (HO226.out) (Kd.S_typed HO_15.out) (by decide)) (fun k_ hk => ⟨trivial, hk.2⟩))) (fun _ h_ => h_))); (case aB => exact belNow); (case aF => exact (fun _ _ => trivial)); (case aO => exact (by (with_reducible repeat (first | apply Kd.S_alloc | apply Kd.S_drewN | apply Kd.S_drew)); exact Kd.S_mono HO_15.out (fun k_ hk => ⟨trivial, fun e_ => hk.2 e_⟩))); (case aS => exact (below_size belNow)); (case aL => have := LMc52.out; omega); intro v228 w55 ho hb hg hat; rw [← Ny227.out] at ho; replace HB := Aside0.mk hb; replace HR218 := Aside0.mk ((show Kd.C k57 w55 A53 y215.length y215 from by rw [Ny215.out, KA53.out]; exact Kd.C_mid (lo := (x16_4 : Int).toNat) (hi := (x17_4 : Int).toNat) (c := co17) ((Kd.R_reads' (Kd.R_over' (kdUp HO_10.out) (Kd.S_typed (by (with_reducible repeat (first | apply Kd.S_alloc | apply Kd.S_drewN | apply Kd.S_drew)); exact HO_15.out)) (by decide) hg)).2.2) KM53.out KL53.out ((Kd.R_reads' (Kd.R_over' (kdUp HO_10.out) (Kd.S_typed (by (with_reducible repeat (first | apply Kd.S_alloc | apply Kd.S_drewN | apply Kd.S_drew)); exact HO_15.out)) (by decide) hg)).2.1))); replace HO_10 := Aside0.mk (Kd.R_over' (kdUp HO_10.out) (Kd.S_typed (by (with_reducible repeat (first | apply Kd.S_alloc | apply Kd.S_drewN | apply Kd.S_drew)); exact HO_15.out)) (by decide) hg); have HO229 := Aside0.mk (ho); clear HO_15 HO226; clear ho hb hg hat)))
         go_roundg k4
         case measure => have := HJ4.out; have := HJ7.out; have := HK3.out; have := HK4.out; omega
         case rel => exact ⟨(y227), (x17_4), (wrap64 (x17_4 + 1)), eqNow, eqNow, H', ⟨by have := HJ4.out; have := HJ7.out; have := HK3.out; have := HK4.out; omega⟩, ⟨kdMv HO_10⟩, ⟨kdMv HO229⟩, ⟨belNow⟩⟩
end Go.Proofs.Ytkoagpnoaibdjaa.Pp
