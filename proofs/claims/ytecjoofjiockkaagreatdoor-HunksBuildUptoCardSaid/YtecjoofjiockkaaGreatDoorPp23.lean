import Derived.Test.YtecjoofjiockkaaGreatDoorESt
import Derived.Test.YtecjoofjiockkaaGreatDoorPp0
import Derived.Test.YtecjoofjiockkaaGreatDoorPp4
import Derived.Test.YtecjoofjiockkaaGreatDoorPp20
import Derived.Test.YtecjoofjiockkaaGreatDoorPp21
import Derived.Test.YtecjoofjiockkaaGreatDoorPp22
namespace Go.Proofs.YtecjoofjiockkaaGreatDoor.Pp
open Go.RowKit Go.Proofs.YtecjoofjiockkaaGreatDoor.Ext Go.Proofs.YtecjoofjiockkaaGreatDoorW.PrintWords Go.Proofs.YtecjoofjiockkaaGreatDoorW.PrintLast Go.Proofs.YtecjoofjiockkaaGreatDoorW.PrintMore
attribute [local go_sem] max2_int min2_int max_two min_two max_three min_three max_four min_four   -- for this text's walks alone
set_option linter.unusedVariables false
set_option linter.unusedSimpArgs false
mutual
def selvageref10_Build.j0 : Nat → List (S49) → List ByteArray → List ByteArray → Int → Bool → Option ((List (S29)) × Int)
 | 0, _, _, _, _, _ => none
 | k + 1, x0, x1, x2, x3, x23 => if x23 = true then (some (([] : List (S29)), 1)) else ((selvageref01_Valid.f k x1).bind fun t464 => (if t464 = true then ((selvageref01_Valid.f k x2).bind fun t465 => (selvageref10_Build.j1 k x0 x1 x2 x3 (!t465))) else (selvageref10_Build.j1 k x0 x1 x2 x3 true)))
def selvageref10_Build.j1 : Nat → List (S49) → List ByteArray → List ByteArray → Int → Bool → Option ((List (S29)) × Int)
 | 0, _, _, _, _, _ => none
 | k + 1, x0, x1, x2, x3, x31 => if x31 = true then (some (([] : List (S29)), 3)) else ((selvageref06_Normal.f k x0 (x1.length : Int) (x2.length : Int)).bind fun bt466 => (if bt466.2 = 0 then ((selvageref06_Pairs.f k bt466.1 (x1.length : Int) (x2.length : Int)).bind fun bt470 => (selvageref10_Build.l0 k x1 x2 x3 bt466.1 bt470.1 0)) else (some (([] : List (S29)), bt466.2))))
def selvageref10_Build.l0 : Nat → List ByteArray → List ByteArray → Int → List (S49) → List (S94) → Int → Option ((List (S29)) × Int)
 | 0, _, _, _, _, _, _ => none
 | k + 1, x1, x2, x3, x10, x12, x14 => if x14 < (x12.length : Int) then (if 0 ≤ x14 then (if 0 ≤ ((rd_T94 x12 x14).f0) then (if ((rd_T94 x12 x14).f0) < (x1.length : Int) then ((selvageref01_Whole.f (rdOf ByteArray.empty x1 ((rd_T94 x12 x14).f0))).bind fun t476 => (if 0 ≤ ((rd_T94 x12 x14).f1) then (if ((rd_T94 x12 x14).f1) < (x2.length : Int) then ((selvageref01_Whole.f (rdOf ByteArray.empty x2 ((rd_T94 x12 x14).f1))).bind fun t479 => (if (t476 != t479) = true then (some (([] : List (S29)), 61)) else (selvageref10_Build.l0 k x1 x2 x3 x10 x12 (wrap64 (x14 + 1))))) else (none)) else (none))) else (none)) else (none)) else (none)) else (selvageref10_Build.l1 k x1 x2 x3 x10 ([] : List (S29)) 0 1)
def selvageref10_Build.l1 : Nat → List ByteArray → List ByteArray → Int → List (S49) → List (S29) → Int → Int → Option ((List (S29)) × Int)
 | 0, _, _, _, _, _, _, _ => none
 | k + 1, x1, x2, x3, x10, x15, x16, x17 => if x17 ≤ (x10.length : Int) then (if x17 = (x10.length : Int) then (if 0 ≤ x16 then (if x16 ≤ x17 then ((selvageref10_one.f k ((x10.take (x17 : Int).toNat).drop (x16 : Int).toNat) x1 x2 x3).bind fun bt484 => (if x15.length < 1954687338268 then (selvageref10_Build.l1 k x1 x2 x3 x10 (x15 ++ [(⟨bt484.1, bt484.2.1, bt484.2.2.1, bt484.2.2.2.1, bt484.2.2.2.2.1, bt484.2.2.2.2.2⟩ : S29)]) x17 (wrap64 (x17 + 1))) else (none))) else (none)) else (none)) else (if 0 ≤ x17 then (if x17 < (x10.length : Int) then (if 0 ≤ (wrap64 (x17 - 1)) then (if (wrap64 (x17 - 1)) < (x10.length : Int) then (if (wrap64 (((rd_T49 x10 x17).f0) - (wrap64 (((rd_T49 x10 (wrap64 (x17 - 1))).f0) + ((rd_T49 x10 (wrap64 (x17 - 1))).f1))))) > (wrap64 (2 * x3)) then (if 0 ≤ x16 then (if x16 ≤ x17 then ((selvageref10_one.f k ((x10.take (x17 : Int).toNat).drop (x16 : Int).toNat) x1 x2 x3).bind fun bt502 => (if x15.length < 1954687338268 then (selvageref10_Build.l1 k x1 x2 x3 x10 (x15 ++ [(⟨bt502.1, bt502.2.1, bt502.2.2.1, bt502.2.2.2.1, bt502.2.2.2.2.1, bt502.2.2.2.2.2⟩ : S29)]) x17 (wrap64 (x17 + 1))) else (none))) else (none)) else (none)) else (selvageref10_Build.l1 k x1 x2 x3 x10 x15 x16 (wrap64 (x17 + 1)))) else (none)) else (none)) else (none)) else (none))) else (some (x15, 0))
end
def selvageref10_Build.f (k : Nat) (l0 : List (S49)) (l1 : List ByteArray) (l2 : List ByteArray) (a3 : Int) : Option ((List (S29)) × Int) := if a3 < 0 then (selvageref10_Build.j0 k l0 l1 l2 a3 true) else (selvageref10_Build.j0 k l0 l1 l2 a3 (decide (a3 > 2147483647)))
set_option maxHeartbeats 80000000 in
set_option maxRecDepth 100000 in
theorem selvageref10_Build.calls (k : Nat) (A0 : Option Addr) (c0 : Nat) (l0 : List (S49)) (A1 : Option Addr) (c1 : Nat) (l1 : List ByteArray) (A2 : Option Addr) (c2 : Nat) (l2 : List ByteArray) (a3 : Int) (r1 : List (S29)) (r2 : Int) (w : World) (hr0 : Kd.C k49 w A0 l0.length l0) (hc0 : l0.length ≤ c0) (hr1 : Kd.C Kd.string w A1 l1.length l1) (hc1 : l1.length ≤ c1) (hr2 : Kd.C Kd.string w A2 l2.length l2) (hc2 : l2.length ≤ c2) (h : selvageref10_Build.f k l0 l1 l2 a3 = some (r1, r2)) :
  Calls Tryz.prog 22 #[.slice A0 l0.length c0, .slice A1 l1.length c1, .slice A2 l2.length c2, .int .i64 a3] w fun e w' => ∃ v0_ : Value, e = .returned (.tuple #[v0_, .int .i64 r2]) ∧ Kd.S k29 29 w' w.heap.size (fun _ => True) v0_ r1 ∧ Below w.heap.size w w' := by
 have HR0 := Aside0.mk hr0
 have HC0 := Aside0.mk hc0
 clear hr0 hc0
 have HR1 := Aside0.mk hr1
 have HC1 := Aside0.mk hc1
 clear hr1 hc1
 have HR2 := Aside0.mk hr2
 have HC2 := Aside0.mk hc2
 clear hr2 hc2
 have HB := Aside0.mk (Below.refl w.heap.size w)
 have H := h
 clear h
 unfold selvageref10_Build.f at H
 have HC5 := Aside0.mk H
 clear H
 go_enter Tryz.func22, Tryz.ntmps22
 try simp only [List.append_eq, List.cons_append, List.nil_append]
 go_upto_region 1 with (fail)
 repeat (go_quiet (fail); go_upto_region 1 with (fail))
 go_cut [23] (fun v23 wc => ∃ (kq : Nat) (x23_4 : Bool), v23 = .bool x23_4 ∧ Aside0 (selvageref10_Build.j0 kq l0 l1 l2 a3 x23_4 = some (r1, r2)) ∧ Aside0 (kq ≤ k) ∧ Aside0 (Below w.heap.size w wc))
 case first =>
  have H := HC5.out
  clear HC5
  replace H := itL H
  rcases H with ⟨-, c6b0, H⟩ | ⟨-, c6b0, H⟩
  ·(first | rw [c6b0] | (simp only [i64_w, i32_w]; rw [c6b0]) | skip)
   have H' := Aside0.mk H
   clear H
   go_wp2
   repeat (go_quiet (fail); try go_wp2)
   go_meet
   case rel => exact ⟨_, (true), eqNow, H', ⟨by first | omega | exact Nat.le_refl _⟩, ⟨belNow⟩⟩
  (first | rw [c6b0] | (simp only [i64_w, i32_w]; rw [c6b0]) | skip)
  have H' := Aside0.mk H
  clear H
  go_wp2
  repeat (go_quiet (fail); try go_wp2)
  go_meet
  case rel => exact ⟨_, (decide (a3 > 2147483647)), eqNow, H', ⟨by first | omega | exact Nat.le_refl _⟩, ⟨belNow⟩⟩
 case rest =>
  clear HC5
  try clear c1
  try clear c2
  obtain ⟨kq, x23_4, rfl, HA, HJ4, HB⟩ := hcut
  cases kq with
  | zero => exact absurd HA.out (by simp [selvageref10_Build.j0])
  | succ kj4 =>
   have H := HA.out
   clear HA
   simp only [selvageref10_Build.j0] at H
   replace H := itB H
   rcases H with ⟨rfl, H⟩ | ⟨rfl, H⟩
   ·simp only [Option.some.injEq, Prod.mk.injEq] at H
    obtain ⟨rfl, rfl⟩ := H
    go_wp2
    repeat (go_quiet (fail); try go_wp2)
    go_ret2
    exact ⟨_, eqEnd, kNil, belNow⟩
   have HC8 := Aside0.mk H
   clear H
   go_upto_region 3 with (fail)
   repeat (go_quiet (fail); go_upto_region 3 with (fail))
   go_cut [31] (fun v31 wc => ∃ (kq : Nat) (x31_7 : Bool), v31 = .bool x31_7 ∧ Aside0 (selvageref10_Build.j1 kq l0 l1 l2 a3 x31_7 = some (r1, r2)) ∧ Aside0 (kq ≤ kj4) ∧ Aside0 (Below w.heap.size w wc))
   case first =>
    have H := HC8.out
    clear HC8
    replace H := bdS H
    obtain ⟨t464, A9, H⟩ := H
    replace H := itBn H
    rcases H with ⟨rfl, H⟩ | ⟨rfl, H⟩
    ·have H' := Aside0.mk H
     clear H
     go_wp2_with (first | (go_at_call 55; (with_reducible refine (selvageref01_Valid.calls kj4 _ _ l1 false _ ?side1 ?side2 A9.out).mono ?_); (case side1 => exact kcU HR1 HB); (case side2 => exact HC1.out); rintro e w' ⟨rfl, ⟨nd, rfl⟩⟩; (try exact drwOk)))
     repeat (go_quiet (first | (go_at_call 55; (with_reducible refine (selvageref01_Valid.calls kj4 _ _ l1 false _ ?side1 ?side2 A9.out).mono ?_); (case side1 => exact kcU HR1 HB); (case side2 => exact HC1.out); rintro e w' ⟨rfl, ⟨nd, rfl⟩⟩; (try exact drwOk))); try go_wp2_with (first | (go_at_call 55; (with_reducible refine (selvageref01_Valid.calls kj4 _ _ l1 false _ ?side1 ?side2 A9.out).mono ?_); (case side1 => exact kcU HR1 HB); (case side2 => exact HC1.out); rintro e w' ⟨rfl, ⟨nd, rfl⟩⟩; (try exact drwOk))))
     go_meet
     case rel => exact ⟨_, (true), eqNow, H', ⟨by have := HJ4.out; first | omega | exact Nat.le_refl _⟩, ⟨belNow⟩⟩
    replace H := bdS H
    obtain ⟨t465, A11, H⟩ := H
    have H' := Aside0.mk H
    clear H
    go_wp2_with (first | (go_at_call 55; (with_reducible refine (selvageref01_Valid.calls kj4 _ _ l1 true _ ?side1 ?side2 A9.out).mono ?_); (case side1 => exact kcU HR1 HB); (case side2 => exact HC1.out); rintro e w' ⟨rfl, ⟨nd, rfl⟩⟩; (try exact drwOk)) | (go_at_call 55; (with_reducible refine (selvageref01_Valid.calls kj4 _ _ l2 t465 _ ?side1 ?side2 A11.out).mono ?_); (case side1 => repeat (first | exact (Kd.C_below HR2.out belNow) | (with_reducible refine Kd.C_alloc ?_ _) | (with_reducible refine Kd.C_drewN ?_ _) | (with_reducible refine Kd.C_drew ?_))); (case side2 => exact HC2.out); rintro e w' ⟨rfl, ⟨nd, rfl⟩⟩; (try exact drwOk)))
    repeat (go_quiet (first | (go_at_call 55; (with_reducible refine (selvageref01_Valid.calls kj4 _ _ l1 true _ ?side1 ?side2 A9.out).mono ?_); (case side1 => exact kcU HR1 HB); (case side2 => exact HC1.out); rintro e w' ⟨rfl, ⟨nd, rfl⟩⟩; (try exact drwOk)) | (go_at_call 55; (with_reducible refine (selvageref01_Valid.calls kj4 _ _ l2 t465 _ ?side1 ?side2 A11.out).mono ?_); (case side1 => repeat (first | exact (Kd.C_below HR2.out belNow) | (with_reducible refine Kd.C_alloc ?_ _) | (with_reducible refine Kd.C_drewN ?_ _) | (with_reducible refine Kd.C_drew ?_))); (case side2 => exact HC2.out); rintro e w' ⟨rfl, ⟨nd, rfl⟩⟩; (try exact drwOk))); try go_wp2_with (first | (go_at_call 55; (with_reducible refine (selvageref01_Valid.calls kj4 _ _ l1 true _ ?side1 ?side2 A9.out).mono ?_); (case side1 => exact kcU HR1 HB); (case side2 => exact HC1.out); rintro e w' ⟨rfl, ⟨nd, rfl⟩⟩; (try exact drwOk)) | (go_at_call 55; (with_reducible refine (selvageref01_Valid.calls kj4 _ _ l2 t465 _ ?side1 ?side2 A11.out).mono ?_); (case side1 => repeat (first | exact (Kd.C_below HR2.out belNow) | (with_reducible refine Kd.C_alloc ?_ _) | (with_reducible refine Kd.C_drewN ?_ _) | (with_reducible refine Kd.C_drew ?_))); (case side2 => exact HC2.out); rintro e w' ⟨rfl, ⟨nd, rfl⟩⟩; (try exact drwOk))))
    go_meet
    case rel => exact ⟨_, (!t465), eqNow, H', ⟨by have := HJ4.out; first | omega | exact Nat.le_refl _⟩, ⟨belNow⟩⟩
   case rest =>
    clear HC8
    try clear c1
    try clear c2
    try clear c7
    obtain ⟨kq, x31_7, rfl, HA, HJ7, HB⟩ := hcut
    cases kq with
    | zero => exact absurd HA.out (by simp [selvageref10_Build.j1])
    | succ kj7 =>
     have H := HA.out
     clear HA
     simp only [selvageref10_Build.j1] at H
     replace H := itB H
     rcases H with ⟨rfl, H⟩ | ⟨rfl, H⟩
     ·simp only [Option.some.injEq, Prod.mk.injEq] at H
      obtain ⟨rfl, rfl⟩ := H
      go_wp2
      repeat (go_quiet (fail); try go_wp2)
      go_ret2
      exact ⟨_, eqEnd, kNil, belNow⟩
     replace H := bdS H
     obtain ⟨⟨t466, t467⟩, A13, H⟩ := H
     replace H : (if t467 = 0 then ((selvageref06_Pairs.f kj7 t466 (l1.length : Int) (l2.length : Int)).bind fun bt470 => (selvageref10_Build.l0 kj7 l1 l2 a3 t466 bt470.1 0)) else (some (([] : List (S29)), t467))) = some (r1, r2) := H
     replace H := itEn H
     rcases H with ⟨c14, c14b0, c14b1, H⟩ | ⟨-, c14b0, c14b1, H⟩
     ·simp only [Option.some.injEq, Prod.mk.injEq] at H
      obtain ⟨rfl, rfl⟩ := H
      go_wp2_with (first | (go_at_call 56; (with_reducible refine (selvageref06_Normal.calls kj7 _ _ l0 (l1.length : Int) (l2.length : Int) t466 t467 _ ?side1 ?side2 A13.out).mono ?_); (case side1 => exact kcU HR0 HB); (case side2 => exact HC0.out); rintro e w57 ⟨v468, rfl, ho0, hb⟩; have HO469 := Aside0.mk (Kd.R_lower ho0 (below_size belNow)); replace HB := hbD HB hb; clear hb; (try clear ho0)))
      repeat (go_quiet (first | (go_at_call 56; (with_reducible refine (selvageref06_Normal.calls kj7 _ _ l0 (l1.length : Int) (l2.length : Int) t466 t467 _ ?side1 ?side2 A13.out).mono ?_); (case side1 => exact kcU HR0 HB); (case side2 => exact HC0.out); rintro e w57 ⟨v468, rfl, ho0, hb⟩; have HO469 := Aside0.mk (Kd.R_lower ho0 (below_size belNow)); replace HB := hbD HB hb; clear hb; (try clear ho0))); try go_wp2_with (first | (go_at_call 56; (with_reducible refine (selvageref06_Normal.calls kj7 _ _ l0 (l1.length : Int) (l2.length : Int) t466 t467 _ ?side1 ?side2 A13.out).mono ?_); (case side1 => exact kcU HR0 HB); (case side2 => exact HC0.out); rintro e w57 ⟨v468, rfl, ho0, hb⟩; have HO469 := Aside0.mk (Kd.R_lower ho0 (below_size belNow)); replace HB := hbD HB hb; clear hb; (try clear ho0))))
      go_ret2
      exact ⟨_, eqEnd, kNil, belNow⟩
     replace H := bdS H
     obtain ⟨⟨t470, t471⟩, A15, H⟩ := H
     replace H : (selvageref10_Build.l0 kj7 l1 l2 a3 t466 t470 0) = some (r1, r2) := H
     have H' := Aside0.mk H
     clear H
     go_wp2_with (first | (go_at_call 56; (with_reducible refine (selvageref06_Normal.calls kj7 _ _ l0 (l1.length : Int) (l2.length : Int) t466 t467 _ ?side1 ?side2 A13.out).mono ?_); (case side1 => exact kcU HR0 HB); (case side2 => exact HC0.out); rintro e w16 ⟨v468, rfl, ho0, hb⟩; have HO469 := Aside0.mk (Kd.R_lower ho0 (below_size belNow)); replace HB := hbD HB hb; clear hb; (try clear ho0); obtain ⟨Ao17, co17, eo17⟩ := Kd.R_slice HO469.out; subst eo17) | (go_at_call 57; (with_reducible refine (selvageref06_Pairs.calls kj7 _ _ t466 (l1.length : Int) (l2.length : Int) t470 t471 _ ?side1 ?side2 A15.out).mono ?_); (case side1 => repeat (first | exact (Kd.R_reads' HO469.out).2.2 | (with_reducible refine Kd.C_alloc ?_ _) | (with_reducible refine Kd.C_drewN ?_ _) | (with_reducible refine Kd.C_drew ?_))); (case side2 => exact (Kd.R_reads' HO469.out).2.1); rintro e w18 ⟨v472, rfl, ho0, hb⟩; replace HO469 := Aside0.mk (Kd.R_below (kdUp HO469.out) hb); have HO473 := Aside0.mk (Kd.R_lower ho0 (below_size belNow)); replace HB := hbD HB hb; clear hb; (try clear ho0)))
     repeat (go_quiet (first | (go_at_call 56; (with_reducible refine (selvageref06_Normal.calls kj7 _ _ l0 (l1.length : Int) (l2.length : Int) t466 t467 _ ?side1 ?side2 A13.out).mono ?_); (case side1 => exact kcU HR0 HB); (case side2 => exact HC0.out); rintro e w16 ⟨v468, rfl, ho0, hb⟩; have HO469 := Aside0.mk (Kd.R_lower ho0 (below_size belNow)); replace HB := hbD HB hb; clear hb; (try clear ho0); obtain ⟨Ao17, co17, eo17⟩ := Kd.R_slice HO469.out; subst eo17) | (go_at_call 57; (with_reducible refine (selvageref06_Pairs.calls kj7 _ _ t466 (l1.length : Int) (l2.length : Int) t470 t471 _ ?side1 ?side2 A15.out).mono ?_); (case side1 => repeat (first | exact (Kd.R_reads' HO469.out).2.2 | (with_reducible refine Kd.C_alloc ?_ _) | (with_reducible refine Kd.C_drewN ?_ _) | (with_reducible refine Kd.C_drew ?_))); (case side2 => exact (Kd.R_reads' HO469.out).2.1); rintro e w18 ⟨v472, rfl, ho0, hb⟩; replace HO469 := Aside0.mk (Kd.R_below (kdUp HO469.out) hb); have HO473 := Aside0.mk (Kd.R_lower ho0 (below_size belNow)); replace HB := hbD HB hb; clear hb; (try clear ho0))); try go_wp2_with (first | (go_at_call 56; (with_reducible refine (selvageref06_Normal.calls kj7 _ _ l0 (l1.length : Int) (l2.length : Int) t466 t467 _ ?side1 ?side2 A13.out).mono ?_); (case side1 => exact kcU HR0 HB); (case side2 => exact HC0.out); rintro e w16 ⟨v468, rfl, ho0, hb⟩; have HO469 := Aside0.mk (Kd.R_lower ho0 (below_size belNow)); replace HB := hbD HB hb; clear hb; (try clear ho0); obtain ⟨Ao17, co17, eo17⟩ := Kd.R_slice HO469.out; subst eo17) | (go_at_call 57; (with_reducible refine (selvageref06_Pairs.calls kj7 _ _ t466 (l1.length : Int) (l2.length : Int) t470 t471 _ ?side1 ?side2 A15.out).mono ?_); (case side1 => repeat (first | exact (Kd.R_reads' HO469.out).2.2 | (with_reducible refine Kd.C_alloc ?_ _) | (with_reducible refine Kd.C_drewN ?_ _) | (with_reducible refine Kd.C_drew ?_))); (case side2 => exact (Kd.R_reads' HO469.out).2.1); rintro e w18 ⟨v472, rfl, ho0, hb⟩; replace HO469 := Aside0.mk (Kd.R_below (kdUp HO469.out) hb); have HO473 := Aside0.mk (Kd.R_lower ho0 (below_size belNow)); replace HB := hbD HB hb; clear hb; (try clear ho0))))
     go_loopg [14] kj7 (fun kq v14 w' => ∃ (x14_3 : Int), v14 = .int .i64 x14_3 ∧ Aside0 (selvageref10_Build.l0 kq l1 l2 a3 t466 t470 x14_3 = some (r1, r2)) ∧ Aside0 (kq ≤ kj7) ∧ Aside0 (Kd.R k49 49 w' w.heap.size (fun _ => True) (.slice Ao17 t466.length co17) t466) ∧ Aside0 (Kd.R k94 94 w' w.heap.size (fun _ => True) v472 t470) ∧ Aside0 (Below w.heap.size w w'))
     case atStart => exact ⟨(0), eqNow, H', ⟨Nat.le_refl _⟩, ⟨kdMv HO469⟩, ⟨kdMv HO473⟩, ⟨belNow⟩⟩
     case round =>
      clear H'
      try clear c1
      try clear c2
      try clear c7
      try clear c12
      try clear c14
      try clear c14b0
      try clear c14b1
      obtain ⟨x14_3, rfl, HA, HK3, HO_10, HO_12, HB⟩ := hrel
      cases gk with
      | zero => exact absurd HA.out (by simp [selvageref10_Build.l0])
      | succ k3 =>
       have H := HA.out
       clear HA
       simp only [selvageref10_Build.l0] at H
       replace H := itL H
       rcases H with ⟨-, c19b0, H⟩ | ⟨-, c19b0, H⟩
       ·replace H := itLn H
        rcases H with ⟨_, _, H⟩ | ⟨-, c20b0, H⟩
        ·cases H
        replace H := itLn H
        rcases H with ⟨_, _, H⟩ | ⟨-, c21b0, H⟩
        ·cases H
        replace H := itLn H
        rcases H with ⟨_, _, H⟩ | ⟨-, c22b0, H⟩
        ·cases H
        replace H := bdS H
        obtain ⟨t476, A23, H⟩ := H
        replace H := itLn H
        rcases H with ⟨_, _, H⟩ | ⟨-, c24b0, H⟩
        ·cases H
        replace H := itLn H
        rcases H with ⟨_, _, H⟩ | ⟨-, c25b0, H⟩
        ·cases H
        replace H := bdS H
        obtain ⟨t479, A26, H⟩ := H
        replace H := itE H
        rcases H with ⟨c27, -, -, H⟩ | ⟨c27, -, -, H⟩
        ·have c27b0 : (t476 != t479) = true := c27
         (try (have c27b1 : decide (t476 = t479) = false := by simpa using c27))
         (try (have c27b2 : (t476 == t479) = false := by simpa using c27))
         (try (have c27b3 : ¬ (t476 = t479) := by simpa using c27))
         clear c27
         simp only [Option.some.injEq, Prod.mk.injEq] at H
         obtain ⟨rfl, rfl⟩ := H
         obtain ⟨Ao28, co28, eo28⟩ := Kd.R_slice HO_12.out
         subst eo28
         have p474 : 0 ≤ (x14_3 : Int) := ofDec
         have q474 : x14_3 < (t470.length : Int) := ofDec
         obtain ⟨ad474, e474, hx474_0, hx474_1⟩ := at_T94 (Kd.R_reads' HO_12.out).2.2 x14_3 p474 q474
         cases e474
         replace p474 := eq_true p474
         replace q474 := eq_true q474
         have p475 : 0 ≤ (((rd_T94 t470 x14_3).f0) : Int) := ofDec
         have q475 : ((rd_T94 t470 x14_3).f0) < (l1.length : Int) := ofDec
         obtain ⟨ad475, e475, hx475_0⟩ := Kd.at_string HR1.out ((rd_T94 t470 x14_3).f0) p475 q475
         cases e475
         replace hx475_0 := cUp HB.out hx475_0
         replace p475 := eq_true p475
         replace q475 := eq_true q475
         go_wp2_with (first | (go_at_call 58; (with_reducible refine (selvageref01_Whole.calls (rdOf ByteArray.empty l1 ((rd_T94 t470 x14_3).f0)) t476 _ A23.out).mono ?_); rintro e w' ⟨rfl, ⟨nd, rfl⟩⟩; (try exact drwOk); have p477 : 0 ≤ (x14_3 : Int) := ofDec; have q477 : x14_3 < (t470.length : Int) := ofDec; obtain ⟨ad477, e477, hx477_0, hx477_1⟩ := at_T94 (Kd.R_reads' HO_12.out).2.2 x14_3 p477 q477; obtain rfl : ad474 = ad477 := (by injection e477); replace p477 := eq_true p477; replace q477 := eq_true q477; have p478 : 0 ≤ (((rd_T94 t470 x14_3).f1) : Int) := ofDec; have q478 : ((rd_T94 t470 x14_3).f1) < (l2.length : Int) := ofDec; obtain ⟨ad478, e478, hx478_0⟩ := Kd.at_string HR2.out ((rd_T94 t470 x14_3).f1) p478 q478; cases e478; replace hx478_0 := (HB.out.cell (World.block_lt_of_cell? w _ hx478_0)).trans hx478_0; replace p478 := eq_true p478; replace q478 := eq_true q478) | (go_at_call 58; (with_reducible refine (selvageref01_Whole.calls (rdOf ByteArray.empty l2 ((rd_T94 t470 x14_3).f1)) t479 _ A26.out).mono ?_); rintro e w' ⟨rfl, ⟨nd, rfl⟩⟩; (try exact drwOk)))
         repeat (go_quiet (first | (go_at_call 58; (with_reducible refine (selvageref01_Whole.calls (rdOf ByteArray.empty l1 ((rd_T94 t470 x14_3).f0)) t476 _ A23.out).mono ?_); rintro e w' ⟨rfl, ⟨nd, rfl⟩⟩; (try exact drwOk); have p477 : 0 ≤ (x14_3 : Int) := ofDec; have q477 : x14_3 < (t470.length : Int) := ofDec; obtain ⟨ad477, e477, hx477_0, hx477_1⟩ := at_T94 (Kd.R_reads' HO_12.out).2.2 x14_3 p477 q477; obtain rfl : ad474 = ad477 := (by injection e477); replace p477 := eq_true p477; replace q477 := eq_true q477; have p478 : 0 ≤ (((rd_T94 t470 x14_3).f1) : Int) := ofDec; have q478 : ((rd_T94 t470 x14_3).f1) < (l2.length : Int) := ofDec; obtain ⟨ad478, e478, hx478_0⟩ := Kd.at_string HR2.out ((rd_T94 t470 x14_3).f1) p478 q478; cases e478; replace hx478_0 := (HB.out.cell (World.block_lt_of_cell? w _ hx478_0)).trans hx478_0; replace p478 := eq_true p478; replace q478 := eq_true q478) | (go_at_call 58; (with_reducible refine (selvageref01_Whole.calls (rdOf ByteArray.empty l2 ((rd_T94 t470 x14_3).f1)) t479 _ A26.out).mono ?_); rintro e w' ⟨rfl, ⟨nd, rfl⟩⟩; (try exact drwOk))); try go_wp2_with (first | (go_at_call 58; (with_reducible refine (selvageref01_Whole.calls (rdOf ByteArray.empty l1 ((rd_T94 t470 x14_3).f0)) t476 _ A23.out).mono ?_); rintro e w' ⟨rfl, ⟨nd, rfl⟩⟩; (try exact drwOk); have p477 : 0 ≤ (x14_3 : Int) := ofDec; have q477 : x14_3 < (t470.length : Int) := ofDec; obtain ⟨ad477, e477, hx477_0, hx477_1⟩ := at_T94 (Kd.R_reads' HO_12.out).2.2 x14_3 p477 q477; obtain rfl : ad474 = ad477 := (by injection e477); replace p477 := eq_true p477; replace q477 := eq_true q477; have p478 : 0 ≤ (((rd_T94 t470 x14_3).f1) : Int) := ofDec; have q478 : ((rd_T94 t470 x14_3).f1) < (l2.length : Int) := ofDec; obtain ⟨ad478, e478, hx478_0⟩ := Kd.at_string HR2.out ((rd_T94 t470 x14_3).f1) p478 q478; cases e478; replace hx478_0 := (HB.out.cell (World.block_lt_of_cell? w _ hx478_0)).trans hx478_0; replace p478 := eq_true p478; replace q478 := eq_true q478) | (go_at_call 58; (with_reducible refine (selvageref01_Whole.calls (rdOf ByteArray.empty l2 ((rd_T94 t470 x14_3).f1)) t479 _ A26.out).mono ?_); rintro e w' ⟨rfl, ⟨nd, rfl⟩⟩; (try exact drwOk))))
         go_ret2
         exact ⟨_, eqEnd, kNil, belNow⟩
        have c27b0 : (t476 != t479) = false := by simpa using c27
        (try (have c27b1 : decide (t476 = t479) = true := by simpa using c27))
        (try (have c27b2 : (t476 == t479) = true := by simpa using c27))
        clear c27
        have H' := Aside0.mk H
        clear H
        obtain ⟨Ao29, co29, eo29⟩ := Kd.R_slice HO_12.out
        subst eo29
        have p474 : 0 ≤ (x14_3 : Int) := ofDec
        have q474 : x14_3 < (t470.length : Int) := ofDec
        obtain ⟨ad474, e474, hx474_0, hx474_1⟩ := at_T94 (Kd.R_reads' HO_12.out).2.2 x14_3 p474 q474
        cases e474
        replace p474 := eq_true p474
        replace q474 := eq_true q474
        have p475 : 0 ≤ (((rd_T94 t470 x14_3).f0) : Int) := ofDec
        have q475 : ((rd_T94 t470 x14_3).f0) < (l1.length : Int) := ofDec
        obtain ⟨ad475, e475, hx475_0⟩ := Kd.at_string HR1.out ((rd_T94 t470 x14_3).f0) p475 q475
        cases e475
        replace hx475_0 := cUp HB.out hx475_0
        replace p475 := eq_true p475
        replace q475 := eq_true q475
        go_wp2_with (first | (go_at_call 58; (with_reducible refine (selvageref01_Whole.calls (rdOf ByteArray.empty l1 ((rd_T94 t470 x14_3).f0)) t476 _ A23.out).mono ?_); rintro e w' ⟨rfl, ⟨nd, rfl⟩⟩; (try exact drwOk); have p477 : 0 ≤ (x14_3 : Int) := ofDec; have q477 : x14_3 < (t470.length : Int) := ofDec; obtain ⟨ad477, e477, hx477_0, hx477_1⟩ := at_T94 (Kd.R_reads' HO_12.out).2.2 x14_3 p477 q477; obtain rfl : ad474 = ad477 := (by injection e477); replace p477 := eq_true p477; replace q477 := eq_true q477; have p478 : 0 ≤ (((rd_T94 t470 x14_3).f1) : Int) := ofDec; have q478 : ((rd_T94 t470 x14_3).f1) < (l2.length : Int) := ofDec; obtain ⟨ad478, e478, hx478_0⟩ := Kd.at_string HR2.out ((rd_T94 t470 x14_3).f1) p478 q478; cases e478; replace hx478_0 := (HB.out.cell (World.block_lt_of_cell? w _ hx478_0)).trans hx478_0; replace p478 := eq_true p478; replace q478 := eq_true q478) | (go_at_call 58; (with_reducible refine (selvageref01_Whole.calls (rdOf ByteArray.empty l2 ((rd_T94 t470 x14_3).f1)) t479 _ A26.out).mono ?_); rintro e w' ⟨rfl, ⟨nd, rfl⟩⟩; (try exact drwOk)))
        repeat (go_quiet (first | (go_at_call 58; (with_reducible refine (selvageref01_Whole.calls (rdOf ByteArray.empty l1 ((rd_T94 t470 x14_3).f0)) t476 _ A23.out).mono ?_); rintro e w' ⟨rfl, ⟨nd, rfl⟩⟩; (try exact drwOk); have p477 : 0 ≤ (x14_3 : Int) := ofDec; have q477 : x14_3 < (t470.length : Int) := ofDec; obtain ⟨ad477, e477, hx477_0, hx477_1⟩ := at_T94 (Kd.R_reads' HO_12.out).2.2 x14_3 p477 q477; obtain rfl : ad474 = ad477 := (by injection e477); replace p477 := eq_true p477; replace q477 := eq_true q477; have p478 : 0 ≤ (((rd_T94 t470 x14_3).f1) : Int) := ofDec; have q478 : ((rd_T94 t470 x14_3).f1) < (l2.length : Int) := ofDec; obtain ⟨ad478, e478, hx478_0⟩ := Kd.at_string HR2.out ((rd_T94 t470 x14_3).f1) p478 q478; cases e478; replace hx478_0 := (HB.out.cell (World.block_lt_of_cell? w _ hx478_0)).trans hx478_0; replace p478 := eq_true p478; replace q478 := eq_true q478) | (go_at_call 58; (with_reducible refine (selvageref01_Whole.calls (rdOf ByteArray.empty l2 ((rd_T94 t470 x14_3).f1)) t479 _ A26.out).mono ?_); rintro e w' ⟨rfl, ⟨nd, rfl⟩⟩; (try exact drwOk))); try go_wp2_with (first | (go_at_call 58; (with_reducible refine (selvageref01_Whole.calls (rdOf ByteArray.empty l1 ((rd_T94 t470 x14_3).f0)) t476 _ A23.out).mono ?_); rintro e w' ⟨rfl, ⟨nd, rfl⟩⟩; (try exact drwOk); have p477 : 0 ≤ (x14_3 : Int) := ofDec; have q477 : x14_3 < (t470.length : Int) := ofDec; obtain ⟨ad477, e477, hx477_0, hx477_1⟩ := at_T94 (Kd.R_reads' HO_12.out).2.2 x14_3 p477 q477; obtain rfl : ad474 = ad477 := (by injection e477); replace p477 := eq_true p477; replace q477 := eq_true q477; have p478 : 0 ≤ (((rd_T94 t470 x14_3).f1) : Int) := ofDec; have q478 : ((rd_T94 t470 x14_3).f1) < (l2.length : Int) := ofDec; obtain ⟨ad478, e478, hx478_0⟩ := Kd.at_string HR2.out ((rd_T94 t470 x14_3).f1) p478 q478; cases e478; replace hx478_0 := (HB.out.cell (World.block_lt_of_cell? w _ hx478_0)).trans hx478_0; replace p478 := eq_true p478; replace q478 := eq_true q478) | (go_at_call 58; (with_reducible refine (selvageref01_Whole.calls (rdOf ByteArray.empty l2 ((rd_T94 t470 x14_3).f1)) t479 _ A26.out).mono ?_); rintro e w' ⟨rfl, ⟨nd, rfl⟩⟩; (try exact drwOk))))
        go_roundg k3
        case measure => have := HJ4.out; have := HJ7.out; have := HK3.out; omega
        case rel => exact ⟨(wrap64 (x14_3 + 1)), eqNow, H', ⟨by have := HJ4.out; have := HJ7.out; have := HK3.out; omega⟩, ⟨kdMv HO_10⟩, ⟨kdMv HO_12⟩, ⟨belNow⟩⟩
       have H' := Aside0.mk H
       clear H
       obtain ⟨Ao30, co30, eo30⟩ := Kd.R_slice HO_12.out
       subst eo30
       go_wp2
       repeat (go_quiet (fail); try go_wp2)
       go_loopg [15, 16, 17] k3 (fun kq v15 v16 v17 w' => ∃ (x15_4 : List (S29)) (x16_4 : Int) (x17_4 : Int), v16 = .int .i64 x16_4 ∧ v17 = .int .i64 x17_4 ∧ Aside0 (selvageref10_Build.l1 kq l1 l2 a3 t466 x15_4 x16_4 x17_4 = some (r1, r2)) ∧ Aside0 (kq ≤ k3) ∧ Aside0 (Kd.R k49 49 w' w.heap.size (fun _ => True) (.slice Ao17 t466.length co17) t466) ∧ Aside0 (Kd.S k29 29 w' w.heap.size (fun _ => True) v15 x15_4) ∧ Aside0 (Below w.heap.size w w'))
       case atStart => exact ⟨(([] : List (S29))), (0), (1), eqNow, eqNow, H', ⟨Nat.le_refl _⟩, ⟨kdMv HO_10⟩, ⟨kNil⟩, ⟨belNow⟩⟩
       case round =>
        clear H'
        try clear c1
        try clear c2
        try clear c7
        try clear c12
        try clear c14
        try clear c14b0
        try clear c14b1
        try clear c19
        try clear c19b0
        obtain ⟨x15_4, x16_4, x17_4, rfl, rfl, HA, HK4, HO_10, HO_15, HB⟩ := hrel
        cases gk with
        | zero => exact absurd HA.out (by simp [selvageref10_Build.l1])
        | succ k4 =>
         have H := HA.out
         clear HA
         simp only [selvageref10_Build.l1] at H
         replace H := itLn H
         rcases H with ⟨-, c31b0, H⟩ | ⟨-, c31b0, H⟩
         ·simp only [Option.some.injEq, Prod.mk.injEq] at H
          obtain ⟨rfl, rfl⟩ := H
          go_wp2
          repeat (go_quiet (fail); try go_wp2)
          go_ret2
          exact ⟨_, eqEnd, by (with_reducible repeat (first | apply Kd.S_alloc | apply Kd.S_drewN | apply Kd.S_drew)); exact HO_15.out, belNow⟩
         replace H := itE H
         rcases H with ⟨-, c32b0, c32b1, H⟩ | ⟨c32, c32b0, c32b1, H⟩
         ·replace H := itLn H
          rcases H with ⟨_, _, H⟩ | ⟨c33, -, H⟩
          ·cases H
          have c33b0 := eq_true c33
          have c33b1 : decide (0 ≤ x16_4) = true := decide_eq_true c33
          clear c33
          replace H := itLn H
          rcases H with ⟨_, _, H⟩ | ⟨c34, -, H⟩
          ·cases H
          have c34b0 := eq_true c34
          have c34b1 : decide (x16_4 ≤ x17_4) = true := decide_eq_true c34
          clear c34
          have c35b0 := eq_true (ofDec : x17_4 ≤ (t466.length : Int))
          obtain ⟨y480, hy480⟩ : ∃ y_ : List (S49), y_ = ((t466.take (x17_4 : Int).toNat).drop (x16_4 : Int).toNat) := ⟨_, rfl⟩
          replace H : ((selvageref10_one.f k4 y480 l1 l2 a3).bind fun bt484 => (if x15_4.length < 1954687338268 then (selvageref10_Build.l1 k4 l1 l2 a3 t466 (x15_4 ++ [(⟨bt484.1, bt484.2.1, bt484.2.2.1, bt484.2.2.2.1, bt484.2.2.2.2.1, bt484.2.2.2.2.2⟩ : S29)]) x17_4 (wrap64 (x17_4 + 1))) else (none))) = some (r1, r2) := by first | (rw [hy480]; with_reducible exact H) | (have H2_ := (Option.bind_some _ _).symm.trans H; rw [hy480]; with_reducible exact H2_) | (have H2_ := (Option.bind_some _ _).symm.trans H; with_reducible exact H2_) | with_reducible exact H | (rw [hy480]; exact H) | exact H
          have Ny480 := Aside0.mk hy480
          clear hy480
          replace H := bdS H
          obtain ⟨⟨t484, t485, t486, t487, t488, t489⟩, A36, H⟩ := H
          replace H : (if x15_4.length < 1954687338268 then (selvageref10_Build.l1 k4 l1 l2 a3 t466 (x15_4 ++ [(⟨t484, t485, t486, t487, t488, t489⟩ : S29)]) x17_4 (wrap64 (x17_4 + 1))) else (none)) = some (r1, r2) := H
          replace H := itLn H
          rcases H with ⟨_, _, H⟩ | ⟨c37, -, H⟩
          ·cases H
          have LMc37 := Aside0.mk c37
          clear c37
          obtain ⟨y492, hy492⟩ : ∃ y_ : List (S29), y_ = (x15_4 ++ [(⟨t484, t485, t486, t487, t488, t489⟩ : S29)]) := ⟨_, rfl⟩
          replace H : (selvageref10_Build.l1 k4 l1 l2 a3 t466 y492 x17_4 (wrap64 (x17_4 + 1))) = some (r1, r2) := by first | (rw [hy492]; with_reducible exact H) | (have H2_ := (Option.bind_some _ _).symm.trans H; rw [hy492]; with_reducible exact H2_) | (have H2_ := (Option.bind_some _ _).symm.trans H; with_reducible exact H2_) | with_reducible exact H | (rw [hy492]; exact H) | exact H
          have Ny492 := Aside0.mk hy492
          clear hy492
          have H' := Aside0.mk H
          clear H
          have q38 : (x17_4 : Int) ≤ ((t466.length : Int) : Int) := ofDec
          obtain ⟨i038, hi038, _, hsz38, _⟩ := info_parts info49
          have hroom38 : t466.length ≤ co17 := (Kd.R_reads' HO_10.out).2.1
          have hC38 : Kd.C k49 _ Ao17 t466.length t466 := (Kd.R_reads' HO_10.out).2.2
          have ql38 : (x16_4 : Int) ≤ (x17_4 : Int) := ofDec
          have q038 : (0 : Int) ≤ (x16_4 : Int) := ofDec
          have hcut38 := cut_mid (P := Tryz.prog) 37 49 .i64 .i64 Tryz.underlying37 hi038 4 hsz38 Ao17 t466.length co17 x16_4 x17_4 q038 ql38 q38 hroom38
          have hr38 := Kd.C_mid (lo := (x16_4 : Int).toNat) (hi := (x17_4 : Int).toNat) (c := co17) hC38 (by omega) (by omega) hroom38
          obtain ⟨A38, hA38⟩ : ∃ A1, A1 = (if co17 = (x16_4 : Int).toNat then Ao17 else (Ao17 : Option Addr).map (·.add ((x16_4 : Int).toNat * 4))) := ⟨_, rfl⟩
          obtain ⟨c38, hc38⟩ : ∃ c1, c1 = co17 - (x16_4 : Int).toNat := ⟨_, rfl⟩
          have hy38 : y480.length = (x17_4 : Int).toNat - (x16_4 : Int).toNat := (by rw [Ny480.out, List.length_drop, List.length_take] <;> omega)
          rw [show ((t466).take (x17_4 : Int).toNat).drop (x16_4 : Int).toNat = y480 from Ny480.out.symm] at hr38
          replace hr38 : Kd.C k49 _ A38 y480.length y480 := (by rw [hA38]; exact hr38)
          rw [← hy38, ← hA38, ← hc38] at hcut38
          have HR483 := Aside0.mk hr38
          have HC483 := Aside0.mk (show y480.length ≤ c38 from by rw [hy38, hc38]; exact Nat.sub_le_sub_right (Nat.le_trans (by omega) hroom38) _)
          clear hr38 hC38 hroom38 hi038 hsz38 hc38
          have KY38 := Aside0.mk hy38
          have KA38 := Aside0.mk hA38
          clear hy38 hA38
          have KL38 := Aside0.mk (show (x17_4 : Int).toNat ≤ t466.length from by omega)
          have KM38 := Aside0.mk (show (x16_4 : Int).toNat ≤ (x17_4 : Int).toNat from by omega)
          replace q38 := eq_true q38
          go_wp2_with (first | (go_at_call 59; (with_reducible refine (selvageref10_one.calls k4 _ _ y480 _ _ l1 _ _ l2 a3 t484 t485 t486 t487 t488 t489 _ ?side1 ?side2 ?side3 ?side4 ?side5 ?side6 A36.out).mono ?_); (case side1 => repeat (first | exact (by repeat (first | (with_reducible exact HR483.out) | (with_reducible refine Kd.C_alloc ?_ _) | (with_reducible refine Kd.C_drewN ?_ _) | (with_reducible refine Kd.C_drew ?_) | exact HR483.out)) | (with_reducible refine Kd.C_alloc ?_ _) | (with_reducible refine Kd.C_drewN ?_ _) | (with_reducible refine Kd.C_drew ?_))); (case side2 => exact HC483.out); (case side3 => exact kcU HR1 HB); (case side4 => exact HC1.out); (case side5 => exact kcU HR2 HB); (case side6 => exact HC2.out); rintro e w39 ⟨v490, rfl, ho0, hb⟩; replace HO_10 := Aside0.mk (Kd.R_below (kdUp HO_10.out) hb); replace HO_15 := Aside0.mk (Kd.S_elder' (by (with_reducible repeat (first | apply Kd.S_alloc | apply Kd.S_drewN | apply Kd.S_drew)); exact HO_15.out) (Kd.R_base ho0) hb); have HO491 := Aside0.mk (Kd.R_lower ho0 (below_size belNow)); replace HR483 := Aside0.mk (Kd.C_below (by repeat (first | (with_reducible exact HR483.out) | (with_reducible refine Kd.C_alloc ?_ _) | (with_reducible refine Kd.C_drewN ?_ _) | (with_reducible refine Kd.C_drew ?_) | exact HR483.out)) hb); replace HB := hbD HB hb; clear hb; (try clear ho0); obtain ⟨Ao41, co41, eo41⟩ := Kd.R_slice HO491.out; subst eo41) | ((with_reducible refine gate_builtin (b := .append) (xs := #[.tmp 112, .tmp 121]) rfl ?_); at_builtin; refine Kd.S_append k29 (w0 := w) w.heap.size rfl (.tmp 112) (.tmp 121) 22 29 (.agg #[(.int .i64 0), (.int .i64 0), (.int .i64 0), (.int .i64 0), (.string ⟨#[]⟩), (.slice none 0 0)]) 72 rfl Tryz.underlying22 info29 rfl (by decide) (by omega) u15 x15_4 (⟨t484, t485, t486, t487, t488, t489⟩ : S29) [.int .i64 t484, .int .i64 t485, .int .i64 t486, .int .i64 t487, .string t488, .slice Ao41 t489.length co41] (fun _ => True) (fun k_ => some k_ = (.slice Ao41 t489.length co41 : Value).ownBlock) rfl rfl ?aP (fun k_ hk_ => ((Kd.R_mono (ok' := fun k_ => ((fun _ => True)) k_ ∧ some k_ ≠ (u15 : Value).ownBlock) (Kd.R_apart' (HO491.out) (Kd.S_typed HO_15.out) (by decide)) (fun k_ hk => ⟨trivial, hk.2⟩))).1 k_ hk_.symm) ?aF ?aO ?aB ?aS ?aL ?_; (case aP => exact k29_mkM _ _ _ (⟨t484, t485, t486, t487, t488, t489⟩ : S29) (Kd.R_mono (Kd.R_tight rfl (Kd.R_mono (ok' := fun k_ => ((fun _ => True)) k_ ∧ some k_ ≠ (u15 : Value).ownBlock) (Kd.R_apart' (HO491.out) (Kd.S_typed HO_15.out) (by decide)) (fun k_ hk => ⟨trivial, hk.2⟩))) (fun _ h_ => h_))); (case aB => exact belNow); (case aF => exact (fun _ _ => trivial)); (case aO => exact (by (with_reducible repeat (first | apply Kd.S_alloc | apply Kd.S_drewN | apply Kd.S_drew)); exact Kd.S_mono HO_15.out (fun k_ hk => ⟨trivial, fun e_ => hk.2 e_⟩))); (case aS => exact (below_size belNow)); (case aL => have := LMc37.out; omega); intro v493 w40 ho hb hg hat; rw [← Ny492.out] at ho; replace HB := Aside0.mk hb; replace HR483 := Aside0.mk ((show Kd.C k49 w40 A38 y480.length y480 from by rw [Ny480.out, KA38.out]; exact Kd.C_mid (lo := (x16_4 : Int).toNat) (hi := (x17_4 : Int).toNat) (c := co17) ((Kd.R_reads' (Kd.R_over' (kdUp HO_10.out) (Kd.S_typed (by (with_reducible repeat (first | apply Kd.S_alloc | apply Kd.S_drewN | apply Kd.S_drew)); exact HO_15.out)) (by decide) hg)).2.2) KM38.out KL38.out ((Kd.R_reads' (Kd.R_over' (kdUp HO_10.out) (Kd.S_typed (by (with_reducible repeat (first | apply Kd.S_alloc | apply Kd.S_drewN | apply Kd.S_drew)); exact HO_15.out)) (by decide) hg)).2.1))); replace HO_10 := Aside0.mk (Kd.R_over' (kdUp HO_10.out) (Kd.S_typed (by (with_reducible repeat (first | apply Kd.S_alloc | apply Kd.S_drewN | apply Kd.S_drew)); exact HO_15.out)) (by decide) hg); have HO494 := Aside0.mk (ho); clear HO_15 HO491; clear ho hb hg hat))
          repeat (go_quiet (first | (go_at_call 59; (with_reducible refine (selvageref10_one.calls k4 _ _ y480 _ _ l1 _ _ l2 a3 t484 t485 t486 t487 t488 t489 _ ?side1 ?side2 ?side3 ?side4 ?side5 ?side6 A36.out).mono ?_); (case side1 => repeat (first | exact (by repeat (first | (with_reducible exact HR483.out) | (with_reducible refine Kd.C_alloc ?_ _) | (with_reducible refine Kd.C_drewN ?_ _) | (with_reducible refine Kd.C_drew ?_) | exact HR483.out)) | (with_reducible refine Kd.C_alloc ?_ _) | (with_reducible refine Kd.C_drewN ?_ _) | (with_reducible refine Kd.C_drew ?_))); (case side2 => exact HC483.out); (case side3 => exact kcU HR1 HB); (case side4 => exact HC1.out); (case side5 => exact kcU HR2 HB); (case side6 => exact HC2.out); rintro e w39 ⟨v490, rfl, ho0, hb⟩; replace HO_10 := Aside0.mk (Kd.R_below (kdUp HO_10.out) hb); replace HO_15 := Aside0.mk (Kd.S_elder' (by (with_reducible repeat (first | apply Kd.S_alloc | apply Kd.S_drewN | apply Kd.S_drew)); exact HO_15.out) (Kd.R_base ho0) hb); have HO491 := Aside0.mk (Kd.R_lower ho0 (below_size belNow)); replace HR483 := Aside0.mk (Kd.C_below (by repeat (first | (with_reducible exact HR483.out) | (with_reducible refine Kd.C_alloc ?_ _) | (with_reducible refine Kd.C_drewN ?_ _) | (with_reducible refine Kd.C_drew ?_) | exact HR483.out)) hb); replace HB := hbD HB hb; clear hb; (try clear ho0); obtain ⟨Ao41, co41, eo41⟩ := Kd.R_slice HO491.out; subst eo41) | ((with_reducible refine gate_builtin (b := .append) (xs := #[.tmp 112, .tmp 121]) rfl ?_); at_builtin; refine Kd.S_append k29 (w0 := w) w.heap.size rfl (.tmp 112) (.tmp 121) 22 29 (.agg #[(.int .i64 0), (.int .i64 0), (.int .i64 0), (.int .i64 0), (.string ⟨#[]⟩), (.slice none 0 0)]) 72 rfl Tryz.underlying22 info29 rfl (by decide) (by omega) u15 x15_4 (⟨t484, t485, t486, t487, t488, t489⟩ : S29) [.int .i64 t484, .int .i64 t485, .int .i64 t486, .int .i64 t487, .string t488, .slice Ao41 t489.length co41] (fun _ => True) (fun k_ => some k_ = (.slice Ao41 t489.length co41 : Value).ownBlock) rfl rfl ?aP (fun k_ hk_ => ((Kd.R_mono (ok' := fun k_ => ((fun _ => True)) k_ ∧ some k_ ≠ (u15 : Value).ownBlock) (Kd.R_apart' (HO491.out) (Kd.S_typed HO_15.out) (by decide)) (fun k_ hk => ⟨trivial, hk.2⟩))).1 k_ hk_.symm) ?aF ?aO ?aB ?aS ?aL ?_; (case aP => exact k29_mkM _ _ _ (⟨t484, t485, t486, t487, t488, t489⟩ : S29) (Kd.R_mono (Kd.R_tight rfl (Kd.R_mono (ok' := fun k_ => ((fun _ => True)) k_ ∧ some k_ ≠ (u15 : Value).ownBlock) (Kd.R_apart' (HO491.out) (Kd.S_typed HO_15.out) (by decide)) (fun k_ hk => ⟨trivial, hk.2⟩))) (fun _ h_ => h_))); (case aB => exact belNow); (case aF => exact (fun _ _ => trivial)); (case aO => exact (by (with_reducible repeat (first | apply Kd.S_alloc | apply Kd.S_drewN | apply Kd.S_drew)); exact Kd.S_mono HO_15.out (fun k_ hk => ⟨trivial, fun e_ => hk.2 e_⟩))); (case aS => exact (below_size belNow)); (case aL => have := LMc37.out; omega); intro v493 w40 ho hb hg hat; rw [← Ny492.out] at ho; replace HB := Aside0.mk hb; replace HR483 := Aside0.mk ((show Kd.C k49 w40 A38 y480.length y480 from by rw [Ny480.out, KA38.out]; exact Kd.C_mid (lo := (x16_4 : Int).toNat) (hi := (x17_4 : Int).toNat) (c := co17) ((Kd.R_reads' (Kd.R_over' (kdUp HO_10.out) (Kd.S_typed (by (with_reducible repeat (first | apply Kd.S_alloc | apply Kd.S_drewN | apply Kd.S_drew)); exact HO_15.out)) (by decide) hg)).2.2) KM38.out KL38.out ((Kd.R_reads' (Kd.R_over' (kdUp HO_10.out) (Kd.S_typed (by (with_reducible repeat (first | apply Kd.S_alloc | apply Kd.S_drewN | apply Kd.S_drew)); exact HO_15.out)) (by decide) hg)).2.1))); replace HO_10 := Aside0.mk (Kd.R_over' (kdUp HO_10.out) (Kd.S_typed (by (with_reducible repeat (first | apply Kd.S_alloc | apply Kd.S_drewN | apply Kd.S_drew)); exact HO_15.out)) (by decide) hg); have HO494 := Aside0.mk (ho); clear HO_15 HO491; clear ho hb hg hat)); try go_wp2_with (first | (go_at_call 59; (with_reducible refine (selvageref10_one.calls k4 _ _ y480 _ _ l1 _ _ l2 a3 t484 t485 t486 t487 t488 t489 _ ?side1 ?side2 ?side3 ?side4 ?side5 ?side6 A36.out).mono ?_); (case side1 => repeat (first | exact (by repeat (first | (with_reducible exact HR483.out) | (with_reducible refine Kd.C_alloc ?_ _) | (with_reducible refine Kd.C_drewN ?_ _) | (with_reducible refine Kd.C_drew ?_) | exact HR483.out)) | (with_reducible refine Kd.C_alloc ?_ _) | (with_reducible refine Kd.C_drewN ?_ _) | (with_reducible refine Kd.C_drew ?_))); (case side2 => exact HC483.out); (case side3 => exact kcU HR1 HB); (case side4 => exact HC1.out); (case side5 => exact kcU HR2 HB); (case side6 => exact HC2.out); rintro e w39 ⟨v490, rfl, ho0, hb⟩; replace HO_10 := Aside0.mk (Kd.R_below (kdUp HO_10.out) hb); replace HO_15 := Aside0.mk (Kd.S_elder' (by (with_reducible repeat (first | apply Kd.S_alloc | apply Kd.S_drewN | apply Kd.S_drew)); exact HO_15.out) (Kd.R_base ho0) hb); have HO491 := Aside0.mk (Kd.R_lower ho0 (below_size belNow)); replace HR483 := Aside0.mk (Kd.C_below (by repeat (first | (with_reducible exact HR483.out) | (with_reducible refine Kd.C_alloc ?_ _) | (with_reducible refine Kd.C_drewN ?_ _) | (with_reducible refine Kd.C_drew ?_) | exact HR483.out)) hb); replace HB := hbD HB hb; clear hb; (try clear ho0); obtain ⟨Ao41, co41, eo41⟩ := Kd.R_slice HO491.out; subst eo41) | ((with_reducible refine gate_builtin (b := .append) (xs := #[.tmp 112, .tmp 121]) rfl ?_); at_builtin; refine Kd.S_append k29 (w0 := w) w.heap.size rfl (.tmp 112) (.tmp 121) 22 29 (.agg #[(.int .i64 0), (.int .i64 0), (.int .i64 0), (.int .i64 0), (.string ⟨#[]⟩), (.slice none 0 0)]) 72 rfl Tryz.underlying22 info29 rfl (by decide) (by omega) u15 x15_4 (⟨t484, t485, t486, t487, t488, t489⟩ : S29) [.int .i64 t484, .int .i64 t485, .int .i64 t486, .int .i64 t487, .string t488, .slice Ao41 t489.length co41] (fun _ => True) (fun k_ => some k_ = (.slice Ao41 t489.length co41 : Value).ownBlock) rfl rfl ?aP (fun k_ hk_ => ((Kd.R_mono (ok' := fun k_ => ((fun _ => True)) k_ ∧ some k_ ≠ (u15 : Value).ownBlock) (Kd.R_apart' (HO491.out) (Kd.S_typed HO_15.out) (by decide)) (fun k_ hk => ⟨trivial, hk.2⟩))).1 k_ hk_.symm) ?aF ?aO ?aB ?aS ?aL ?_; (case aP => exact k29_mkM _ _ _ (⟨t484, t485, t486, t487, t488, t489⟩ : S29) (Kd.R_mono (Kd.R_tight rfl (Kd.R_mono (ok' := fun k_ => ((fun _ => True)) k_ ∧ some k_ ≠ (u15 : Value).ownBlock) (Kd.R_apart' (HO491.out) (Kd.S_typed HO_15.out) (by decide)) (fun k_ hk => ⟨trivial, hk.2⟩))) (fun _ h_ => h_))); (case aB => exact belNow); (case aF => exact (fun _ _ => trivial)); (case aO => exact (by (with_reducible repeat (first | apply Kd.S_alloc | apply Kd.S_drewN | apply Kd.S_drew)); exact Kd.S_mono HO_15.out (fun k_ hk => ⟨trivial, fun e_ => hk.2 e_⟩))); (case aS => exact (below_size belNow)); (case aL => have := LMc37.out; omega); intro v493 w40 ho hb hg hat; rw [← Ny492.out] at ho; replace HB := Aside0.mk hb; replace HR483 := Aside0.mk ((show Kd.C k49 w40 A38 y480.length y480 from by rw [Ny480.out, KA38.out]; exact Kd.C_mid (lo := (x16_4 : Int).toNat) (hi := (x17_4 : Int).toNat) (c := co17) ((Kd.R_reads' (Kd.R_over' (kdUp HO_10.out) (Kd.S_typed (by (with_reducible repeat (first | apply Kd.S_alloc | apply Kd.S_drewN | apply Kd.S_drew)); exact HO_15.out)) (by decide) hg)).2.2) KM38.out KL38.out ((Kd.R_reads' (Kd.R_over' (kdUp HO_10.out) (Kd.S_typed (by (with_reducible repeat (first | apply Kd.S_alloc | apply Kd.S_drewN | apply Kd.S_drew)); exact HO_15.out)) (by decide) hg)).2.1))); replace HO_10 := Aside0.mk (Kd.R_over' (kdUp HO_10.out) (Kd.S_typed (by (with_reducible repeat (first | apply Kd.S_alloc | apply Kd.S_drewN | apply Kd.S_drew)); exact HO_15.out)) (by decide) hg); have HO494 := Aside0.mk (ho); clear HO_15 HO491; clear ho hb hg hat)))
          go_roundg k4
          case measure => have := HJ4.out; have := HJ7.out; have := HK3.out; have := HK4.out; omega
          case rel => exact ⟨(y492), (x17_4), (wrap64 (x17_4 + 1)), eqNow, eqNow, H', ⟨by have := HJ4.out; have := HJ7.out; have := HK3.out; have := HK4.out; omega⟩, ⟨kdMv HO_10⟩, ⟨kdMv HO494⟩, ⟨belNow⟩⟩
         replace H := itLn H
         rcases H with ⟨_, _, H⟩ | ⟨-, c42b0, H⟩
         ·cases H
         replace H := itLn H
         rcases H with ⟨_, _, H⟩ | ⟨-, c43b0, H⟩
         ·cases H
         obtain ⟨ji44, hji44⟩ : ∃ j_ : Int, (wrap64 (x17_4 - 1)) = j_ := ⟨_, rfl⟩
         first | rw [hji44] at H | simp only [hji44] at H
         have hji44w : (IntKind.i64.wrap (x17_4 - 1)) = ji44 := (i64_w _).trans hji44
         replace H := itLn H
         rcases H with ⟨_, _, H⟩ | ⟨-, c45b0, H⟩
         ·cases H
         replace H := itLn H
         rcases H with ⟨_, _, H⟩ | ⟨-, c46b0, H⟩
         ·cases H
         replace H := itGn H
         rcases H with ⟨-, c47b0, H⟩ | ⟨-, c47b0, H⟩
         ·have H' := Aside0.mk H
          clear H
          have p495 : 0 ≤ (x17_4 : Int) := ofDec
          have q495 : x17_4 < (t466.length : Int) := ofDec
          obtain ⟨ad495, e495, hx495_0, hx495_1, hx495_2, hx495_3⟩ := at_T49 (Kd.R_reads' HO_10.out).2.2 x17_4 p495 q495
          cases e495
          replace p495 := eq_true p495
          replace q495 := eq_true q495
          have p496 : 0 ≤ ((ji44) : Int) := ofDec
          have q496 : (ji44) < (t466.length : Int) := ofDec
          obtain ⟨ad496, e496, hx496_0, hx496_1, hx496_2, hx496_3⟩ := at_T49 (Kd.R_reads' HO_10.out).2.2 (ji44) p496 q496
          obtain rfl : ad495 = ad496 := (by injection e496)
          replace p496 := eq_true p496
          replace q496 := eq_true q496
          have p497 : 0 ≤ ((ji44) : Int) := ofDec
          have q497 : (ji44) < (t466.length : Int) := ofDec
          obtain ⟨ad497, e497, hx497_0, hx497_1, hx497_2, hx497_3⟩ := at_T49 (Kd.R_reads' HO_10.out).2.2 (ji44) p497 q497
          obtain rfl : ad495 = ad497 := (by injection e497)
          replace p497 := eq_true p497
          replace q497 := eq_true q497
          go_wp2
          repeat (go_quiet (fail); try go_wp2)
          go_roundg k4
          case measure => have := HJ4.out; have := HJ7.out; have := HK3.out; have := HK4.out; omega
          case rel => exact ⟨(x15_4), (x16_4), (wrap64 (x17_4 + 1)), eqNow, eqNow, H', ⟨by have := HJ4.out; have := HJ7.out; have := HK3.out; have := HK4.out; omega⟩, ⟨kdMv HO_10⟩, ⟨kdMv HO_15⟩, ⟨belNow⟩⟩
         replace H := itLn H
         rcases H with ⟨_, _, H⟩ | ⟨c48, -, H⟩
         ·cases H
         have c48b0 := eq_true c48
         have c48b1 : decide (0 ≤ x16_4) = true := decide_eq_true c48
         clear c48
         replace H := itLn H
         rcases H with ⟨_, _, H⟩ | ⟨c49, -, H⟩
         ·cases H
         have c49b0 := eq_true c49
         have c49b1 : decide (x16_4 ≤ x17_4) = true := decide_eq_true c49
         clear c49
         have c50b0 := eq_true (ofDec : x17_4 ≤ (t466.length : Int))
         obtain ⟨y498, hy498⟩ : ∃ y_ : List (S49), y_ = ((t466.take (x17_4 : Int).toNat).drop (x16_4 : Int).toNat) := ⟨_, rfl⟩
         replace H : ((selvageref10_one.f k4 y498 l1 l2 a3).bind fun bt502 => (if x15_4.length < 1954687338268 then (selvageref10_Build.l1 k4 l1 l2 a3 t466 (x15_4 ++ [(⟨bt502.1, bt502.2.1, bt502.2.2.1, bt502.2.2.2.1, bt502.2.2.2.2.1, bt502.2.2.2.2.2⟩ : S29)]) x17_4 (wrap64 (x17_4 + 1))) else (none))) = some (r1, r2) := by first | (rw [hy498]; with_reducible exact H) | (have H2_ := (Option.bind_some _ _).symm.trans H; rw [hy498]; with_reducible exact H2_) | (have H2_ := (Option.bind_some _ _).symm.trans H; with_reducible exact H2_) | with_reducible exact H | (rw [hy498]; exact H) | exact H
         have Ny498 := Aside0.mk hy498
         clear hy498
         replace H := bdS H
         obtain ⟨⟨t502, t503, t504, t505, t506, t507⟩, A51, H⟩ := H
         replace H : (if x15_4.length < 1954687338268 then (selvageref10_Build.l1 k4 l1 l2 a3 t466 (x15_4 ++ [(⟨t502, t503, t504, t505, t506, t507⟩ : S29)]) x17_4 (wrap64 (x17_4 + 1))) else (none)) = some (r1, r2) := H
         replace H := itLn H
         rcases H with ⟨_, _, H⟩ | ⟨c52, -, H⟩
         ·cases H
         have LMc52 := Aside0.mk c52
         clear c52
         obtain ⟨y510, hy510⟩ : ∃ y_ : List (S29), y_ = (x15_4 ++ [(⟨t502, t503, t504, t505, t506, t507⟩ : S29)]) := ⟨_, rfl⟩
         replace H : (selvageref10_Build.l1 k4 l1 l2 a3 t466 y510 x17_4 (wrap64 (x17_4 + 1))) = some (r1, r2) := by first | (rw [hy510]; with_reducible exact H) | (have H2_ := (Option.bind_some _ _).symm.trans H; rw [hy510]; with_reducible exact H2_) | (have H2_ := (Option.bind_some _ _).symm.trans H; with_reducible exact H2_) | with_reducible exact H | (rw [hy510]; exact H) | exact H
         have Ny510 := Aside0.mk hy510
         clear hy510
         have H' := Aside0.mk H
         clear H
         have p495 : 0 ≤ (x17_4 : Int) := ofDec
         have q495 : x17_4 < (t466.length : Int) := ofDec
         obtain ⟨ad495, e495, hx495_0, hx495_1, hx495_2, hx495_3⟩ := at_T49 (Kd.R_reads' HO_10.out).2.2 x17_4 p495 q495
         cases e495
         replace p495 := eq_true p495
         replace q495 := eq_true q495
         have p496 : 0 ≤ ((ji44) : Int) := ofDec
         have q496 : (ji44) < (t466.length : Int) := ofDec
         obtain ⟨ad496, e496, hx496_0, hx496_1, hx496_2, hx496_3⟩ := at_T49 (Kd.R_reads' HO_10.out).2.2 (ji44) p496 q496
         obtain rfl : ad495 = ad496 := (by injection e496)
         replace p496 := eq_true p496
         replace q496 := eq_true q496
         have p497 : 0 ≤ ((ji44) : Int) := ofDec
         have q497 : (ji44) < (t466.length : Int) := ofDec
         obtain ⟨ad497, e497, hx497_0, hx497_1, hx497_2, hx497_3⟩ := at_T49 (Kd.R_reads' HO_10.out).2.2 (ji44) p497 q497
         obtain rfl : ad495 = ad497 := (by injection e497)
         replace p497 := eq_true p497
         replace q497 := eq_true q497
         have q53 : (x17_4 : Int) ≤ ((t466.length : Int) : Int) := ofDec
         obtain ⟨i053, hi053, _, hsz53, _⟩ := info_parts info49
         have hroom53 : t466.length ≤ co17 := (Kd.R_reads' HO_10.out).2.1
         have hC53 : Kd.C k49 _ (some ad495) t466.length t466 := (Kd.R_reads' HO_10.out).2.2
         have ql53 : (x16_4 : Int) ≤ (x17_4 : Int) := ofDec
         have q053 : (0 : Int) ≤ (x16_4 : Int) := ofDec
         have hcut53 := cut_mid (P := Tryz.prog) 37 49 .i64 .i64 Tryz.underlying37 hi053 4 hsz53 (some ad495) t466.length co17 x16_4 x17_4 q053 ql53 q53 hroom53
         have hr53 := Kd.C_mid (lo := (x16_4 : Int).toNat) (hi := (x17_4 : Int).toNat) (c := co17) hC53 (by omega) (by omega) hroom53
         obtain ⟨A53, hA53⟩ : ∃ A1, A1 = (if co17 = (x16_4 : Int).toNat then (some ad495) else ((some ad495) : Option Addr).map (·.add ((x16_4 : Int).toNat * 4))) := ⟨_, rfl⟩
         obtain ⟨c53, hc53⟩ : ∃ c1, c1 = co17 - (x16_4 : Int).toNat := ⟨_, rfl⟩
         have hy53 : y498.length = (x17_4 : Int).toNat - (x16_4 : Int).toNat := (by rw [Ny498.out, List.length_drop, List.length_take] <;> omega)
         rw [show ((t466).take (x17_4 : Int).toNat).drop (x16_4 : Int).toNat = y498 from Ny498.out.symm] at hr53
         replace hr53 : Kd.C k49 _ A53 y498.length y498 := (by rw [hA53]; exact hr53)
         rw [← hy53, ← hA53, ← hc53] at hcut53
         have HR501 := Aside0.mk hr53
         have HC501 := Aside0.mk (show y498.length ≤ c53 from by rw [hy53, hc53]; exact Nat.sub_le_sub_right (Nat.le_trans (by omega) hroom53) _)
         clear hr53 hC53 hroom53 hi053 hsz53 hc53
         have KY53 := Aside0.mk hy53
         have KA53 := Aside0.mk hA53
         clear hy53 hA53
         have KL53 := Aside0.mk (show (x17_4 : Int).toNat ≤ t466.length from by omega)
         have KM53 := Aside0.mk (show (x16_4 : Int).toNat ≤ (x17_4 : Int).toNat from by omega)
         replace q53 := eq_true q53
         go_wp2_with (first | (go_at_call 59; (with_reducible refine (selvageref10_one.calls k4 _ _ y498 _ _ l1 _ _ l2 a3 t502 t503 t504 t505 t506 t507 _ ?side1 ?side2 ?side3 ?side4 ?side5 ?side6 A51.out).mono ?_); (case side1 => repeat (first | exact (by repeat (first | (with_reducible exact HR501.out) | (with_reducible refine Kd.C_alloc ?_ _) | (with_reducible refine Kd.C_drewN ?_ _) | (with_reducible refine Kd.C_drew ?_) | exact HR501.out)) | (with_reducible refine Kd.C_alloc ?_ _) | (with_reducible refine Kd.C_drewN ?_ _) | (with_reducible refine Kd.C_drew ?_))); (case side2 => exact HC501.out); (case side3 => exact kcU HR1 HB); (case side4 => exact HC1.out); (case side5 => exact kcU HR2 HB); (case side6 => exact HC2.out); rintro e w54 ⟨v508, rfl, ho0, hb⟩; replace HO_10 := Aside0.mk (Kd.R_below (kdUp HO_10.out) hb); replace HO_15 := Aside0.mk (Kd.S_elder' (by (with_reducible repeat (first | apply Kd.S_alloc | apply Kd.S_drewN | apply Kd.S_drew)); exact HO_15.out) (Kd.R_base ho0) hb); have HO509 := Aside0.mk (Kd.R_lower ho0 (below_size belNow)); replace HR501 := Aside0.mk (Kd.C_below (by repeat (first | (with_reducible exact HR501.out) | (with_reducible refine Kd.C_alloc ?_ _) | (with_reducible refine Kd.C_drewN ?_ _) | (with_reducible refine Kd.C_drew ?_) | exact HR501.out)) hb); replace HB := hbD HB hb; clear hb; (try clear ho0); obtain ⟨Ao56, co56, eo56⟩ := Kd.R_slice HO509.out; subst eo56) | ((with_reducible refine gate_builtin (b := .append) (xs := #[.tmp 112, .tmp 121]) rfl ?_); at_builtin; refine Kd.S_append k29 (w0 := w) w.heap.size rfl (.tmp 112) (.tmp 121) 22 29 (.agg #[(.int .i64 0), (.int .i64 0), (.int .i64 0), (.int .i64 0), (.string ⟨#[]⟩), (.slice none 0 0)]) 72 rfl Tryz.underlying22 info29 rfl (by decide) (by omega) u15 x15_4 (⟨t502, t503, t504, t505, t506, t507⟩ : S29) [.int .i64 t502, .int .i64 t503, .int .i64 t504, .int .i64 t505, .string t506, .slice Ao56 t507.length co56] (fun _ => True) (fun k_ => some k_ = (.slice Ao56 t507.length co56 : Value).ownBlock) rfl rfl ?aP (fun k_ hk_ => ((Kd.R_mono (ok' := fun k_ => ((fun _ => True)) k_ ∧ some k_ ≠ (u15 : Value).ownBlock) (Kd.R_apart' (HO509.out) (Kd.S_typed HO_15.out) (by decide)) (fun k_ hk => ⟨trivial, hk.2⟩))).1 k_ hk_.symm) ?aF ?aO ?aB ?aS ?aL ?_; (case aP => exact k29_mkM _ _ _ (⟨t502, t503, t504, t505, t506, t507⟩ : S29) (Kd.R_mono (Kd.R_tight rfl (Kd.R_mono (ok' := fun k_ => ((fun _ => True)) k_ ∧ some k_ ≠ (u15 : Value).ownBlock) (Kd.R_apart' (HO509.out) (Kd.S_typed HO_15.out) (by decide)) (fun k_ hk => ⟨trivial, hk.2⟩))) (fun _ h_ => h_))); (case aB => exact belNow); (case aF => exact (fun _ _ => trivial)); (case aO => exact (by (with_reducible repeat (first | apply Kd.S_alloc | apply Kd.S_drewN | apply Kd.S_drew)); exact Kd.S_mono HO_15.out (fun k_ hk => ⟨trivial, fun e_ => hk.2 e_⟩))); (case aS => exact (below_size belNow)); (case aL => have := LMc52.out; omega); intro v511 w55 ho hb hg hat; rw [← Ny510.out] at ho; replace HB := Aside0.mk hb; replace HR501 := Aside0.mk ((show Kd.C k49 w55 A53 y498.length y498 from by rw [Ny498.out, KA53.out]; exact Kd.C_mid (lo := (x16_4 : Int).toNat) (hi := (x17_4 : Int).toNat) (c := co17) ((Kd.R_reads' (Kd.R_over' (kdUp HO_10.out) (Kd.S_typed (by (with_reducible repeat (first | apply Kd.S_alloc | apply Kd.S_drewN | apply Kd.S_drew)); exact HO_15.out)) (by decide) hg)).2.2) KM53.out KL53.out ((Kd.R_reads' (Kd.R_over' (kdUp HO_10.out) (Kd.S_typed (by (with_reducible repeat (first | apply Kd.S_alloc | apply Kd.S_drewN | apply Kd.S_drew)); exact HO_15.out)) (by decide) hg)).2.1))); replace HO_10 := Aside0.mk (Kd.R_over' (kdUp HO_10.out) (Kd.S_typed (by (with_reducible repeat (first | apply Kd.S_alloc | apply Kd.S_drewN | apply Kd.S_drew)); exact HO_15.out)) (by decide) hg); have HO512 := Aside0.mk (ho); clear HO_15 HO509; clear ho hb hg hat))
         repeat (go_quiet (first | (go_at_call 59; (with_reducible refine (selvageref10_one.calls k4 _ _ y498 _ _ l1 _ _ l2 a3 t502 t503 t504 t505 t506 t507 _ ?side1 ?side2 ?side3 ?side4 ?side5 ?side6 A51.out).mono ?_); (case side1 => repeat (first | exact (by repeat (first | (with_reducible exact HR501.out) | (with_reducible refine Kd.C_alloc ?_ _) | (with_reducible refine Kd.C_drewN ?_ _) | (with_reducible refine Kd.C_drew ?_) | exact HR501.out)) | (with_reducible refine Kd.C_alloc ?_ _) | (with_reducible refine Kd.C_drewN ?_ _) | (with_reducible refine Kd.C_drew ?_))); (case side2 => exact HC501.out); (case side3 => exact kcU HR1 HB); (case side4 => exact HC1.out); (case side5 => exact kcU HR2 HB); (case side6 => exact HC2.out); rintro e w54 ⟨v508, rfl, ho0, hb⟩; replace HO_10 := Aside0.mk (Kd.R_below (kdUp HO_10.out) hb); replace HO_15 := Aside0.mk (Kd.S_elder' (by (with_reducible repeat (first | apply Kd.S_alloc | apply Kd.S_drewN | apply Kd.S_drew)); exact HO_15.out) (Kd.R_base ho0) hb); have HO509 := Aside0.mk (Kd.R_lower ho0 (below_size belNow)); replace HR501 := Aside0.mk (Kd.C_below (by repeat (first | (with_reducible exact HR501.out) | (with_reducible refine Kd.C_alloc ?_ _) | (with_reducible refine Kd.C_drewN ?_ _) | (with_reducible refine Kd.C_drew ?_) | exact HR501.out)) hb); replace HB := hbD HB hb; clear hb; (try clear ho0); obtain ⟨Ao56, co56, eo56⟩ := Kd.R_slice HO509.out; subst eo56) | ((with_reducible refine gate_builtin (b := .append) (xs := #[.tmp 112, .tmp 121]) rfl ?_); at_builtin; refine Kd.S_append k29 (w0 := w) w.heap.size rfl (.tmp 112) (.tmp 121) 22 29 (.agg #[(.int .i64 0), (.int .i64 0), (.int .i64 0), (.int .i64 0), (.string ⟨#[]⟩), (.slice none 0 0)]) 72 rfl Tryz.underlying22 info29 rfl (by decide) (by omega) u15 x15_4 (⟨t502, t503, t504, t505, t506, t507⟩ : S29) [.int .i64 t502, .int .i64 t503, .int .i64 t504, .int .i64 t505, .string t506, .slice Ao56 t507.length co56] (fun _ => True) (fun k_ => some k_ = (.slice Ao56 t507.length co56 : Value).ownBlock) rfl rfl ?aP (fun k_ hk_ => ((Kd.R_mono (ok' := fun k_ => ((fun _ => True)) k_ ∧ some k_ ≠ (u15 : Value).ownBlock) (Kd.R_apart' (HO509.out) (Kd.S_typed HO_15.out) (by decide)) (fun k_ hk => ⟨trivial, hk.2⟩))).1 k_ hk_.symm) ?aF ?aO ?aB ?aS ?aL ?_; (case aP => exact k29_mkM _ _ _ (⟨t502, t503, t504, t505, t506, t507⟩ : S29) (Kd.R_mono (Kd.R_tight rfl (Kd.R_mono (ok' := fun k_ => ((fun _ => True)) k_ ∧ some k_ ≠ (u15 : Value).ownBlock) (Kd.R_apart' (HO509.out) (Kd.S_typed HO_15.out) (by decide)) (fun k_ hk => ⟨trivial, hk.2⟩))) (fun _ h_ => h_))); (case aB => exact belNow); (case aF => exact (fun _ _ => trivial)); (case aO => exact (by (with_reducible repeat (first | apply Kd.S_alloc | apply Kd.S_drewN | apply Kd.S_drew)); exact Kd.S_mono HO_15.out (fun k_ hk => ⟨trivial, fun e_ => hk.2 e_⟩))); (case aS => exact (below_size belNow)); (case aL => have := LMc52.out; omega); intro v511 w55 ho hb hg hat; rw [← Ny510.out] at ho; replace HB := Aside0.mk hb; replace HR501 := Aside0.mk ((show Kd.C k49 w55 A53 y498.length y498 from by rw [Ny498.out, KA53.out]; exact Kd.C_mid (lo := (x16_4 : Int).toNat) (hi := (x17_4 : Int).toNat) (c := co17) ((Kd.R_reads' (Kd.R_over' (kdUp HO_10.out) (Kd.S_typed (by (with_reducible repeat (first | apply Kd.S_alloc | apply Kd.S_drewN | apply Kd.S_drew)); exact HO_15.out)) (by decide) hg)).2.2) KM53.out KL53.out ((Kd.R_reads' (Kd.R_over' (kdUp HO_10.out) (Kd.S_typed (by (with_reducible repeat (first | apply Kd.S_alloc | apply Kd.S_drewN | apply Kd.S_drew)); exact HO_15.out)) (by decide) hg)).2.1))); replace HO_10 := Aside0.mk (Kd.R_over' (kdUp HO_10.out) (Kd.S_typed (by (with_reducible repeat (first | apply Kd.S_alloc | apply Kd.S_drewN | apply Kd.S_drew)); exact HO_15.out)) (by decide) hg); have HO512 := Aside0.mk (ho); clear HO_15 HO509; clear ho hb hg hat)); try go_wp2_with (first | (go_at_call 59; (with_reducible refine (selvageref10_one.calls k4 _ _ y498 _ _ l1 _ _ l2 a3 t502 t503 t504 t505 t506 t507 _ ?side1 ?side2 ?side3 ?side4 ?side5 ?side6 A51.out).mono ?_); (case side1 => repeat (first | exact (by repeat (first | (with_reducible exact HR501.out) | (with_reducible refine Kd.C_alloc ?_ _) | (with_reducible refine Kd.C_drewN ?_ _) | (with_reducible refine Kd.C_drew ?_) | exact HR501.out)) | (with_reducible refine Kd.C_alloc ?_ _) | (with_reducible refine Kd.C_drewN ?_ _) | (with_reducible refine Kd.C_drew ?_))); (case side2 => exact HC501.out); (case side3 => exact kcU HR1 HB); (case side4 => exact HC1.out); (case side5 => exact kcU HR2 HB); (case side6 => exact HC2.out); rintro e w54 ⟨v508, rfl, ho0, hb⟩; replace HO_10 := Aside0.mk (Kd.R_below (kdUp HO_10.out) hb); replace HO_15 := Aside0.mk (Kd.S_elder' (by (with_reducible repeat (first | apply Kd.S_alloc | apply Kd.S_drewN | apply Kd.S_drew)); exact HO_15.out) (Kd.R_base ho0) hb); have HO509 := Aside0.mk (Kd.R_lower ho0 (below_size belNow)); replace HR501 := Aside0.mk (Kd.C_below (by repeat (first | (with_reducible exact HR501.out) | (with_reducible refine Kd.C_alloc ?_ _) | (with_reducible refine Kd.C_drewN ?_ _) | (with_reducible refine Kd.C_drew ?_) | exact HR501.out)) hb); replace HB := hbD HB hb; clear hb; (try clear ho0); obtain ⟨Ao56, co56, eo56⟩ := Kd.R_slice HO509.out; subst eo56) | ((with_reducible refine gate_builtin (b := .append) (xs := #[.tmp 112, .tmp 121]) rfl ?_); at_builtin; refine Kd.S_append k29 (w0 := w) w.heap.size rfl (.tmp 112) (.tmp 121) 22 29 (.agg #[(.int .i64 0), (.int .i64 0), (.int .i64 0), (.int .i64 0), (.string ⟨#[]⟩), (.slice none 0 0)]) 72 rfl Tryz.underlying22 info29 rfl (by decide) (by omega) u15 x15_4 (⟨t502, t503, t504, t505, t506, t507⟩ : S29) [.int .i64 t502, .int .i64 t503, .int .i64 t504, .int .i64 t505, .string t506, .slice Ao56 t507.length co56] (fun _ => True) (fun k_ => some k_ = (.slice Ao56 t507.length co56 : Value).ownBlock) rfl rfl ?aP (fun k_ hk_ => ((Kd.R_mono (ok' := fun k_ => ((fun _ => True)) k_ ∧ some k_ ≠ (u15 : Value).ownBlock) (Kd.R_apart' (HO509.out) (Kd.S_typed HO_15.out) (by decide)) (fun k_ hk => ⟨trivial, hk.2⟩))).1 k_ hk_.symm) ?aF ?aO ?aB ?aS ?aL ?_; (case aP => exact k29_mkM _ _ _ (⟨t502, t503, t504, t505, t506, t507⟩ : S29) (Kd.R_mono (Kd.R_tight rfl (Kd.R_mono (ok' := fun k_ => ((fun _ => True)) k_ ∧ some k_ ≠ (u15 : Value).ownBlock) (Kd.R_apart' (HO509.out) (Kd.S_typed HO_15.out) (by decide)) (fun k_ hk => ⟨trivial, hk.2⟩))) (fun _ h_ => h_))); (case aB => exact belNow); (case aF => exact (fun _ _ => trivial)); (case aO => exact (by (with_reducible repeat (first | apply Kd.S_alloc | apply Kd.S_drewN | apply Kd.S_drew)); exact Kd.S_mono HO_15.out (fun k_ hk => ⟨trivial, fun e_ => hk.2 e_⟩))); (case aS => exact (below_size belNow)); (case aL => have := LMc52.out; omega); intro v511 w55 ho hb hg hat; rw [← Ny510.out] at ho; replace HB := Aside0.mk hb; replace HR501 := Aside0.mk ((show Kd.C k49 w55 A53 y498.length y498 from by rw [Ny498.out, KA53.out]; exact Kd.C_mid (lo := (x16_4 : Int).toNat) (hi := (x17_4 : Int).toNat) (c := co17) ((Kd.R_reads' (Kd.R_over' (kdUp HO_10.out) (Kd.S_typed (by (with_reducible repeat (first | apply Kd.S_alloc | apply Kd.S_drewN | apply Kd.S_drew)); exact HO_15.out)) (by decide) hg)).2.2) KM53.out KL53.out ((Kd.R_reads' (Kd.R_over' (kdUp HO_10.out) (Kd.S_typed (by (with_reducible repeat (first | apply Kd.S_alloc | apply Kd.S_drewN | apply Kd.S_drew)); exact HO_15.out)) (by decide) hg)).2.1))); replace HO_10 := Aside0.mk (Kd.R_over' (kdUp HO_10.out) (Kd.S_typed (by (with_reducible repeat (first | apply Kd.S_alloc | apply Kd.S_drewN | apply Kd.S_drew)); exact HO_15.out)) (by decide) hg); have HO512 := Aside0.mk (ho); clear HO_15 HO509; clear ho hb hg hat)))
         go_roundg k4
         case measure => have := HJ4.out; have := HJ7.out; have := HK3.out; have := HK4.out; omega
         case rel => exact ⟨(y510), (x17_4), (wrap64 (x17_4 + 1)), eqNow, eqNow, H', ⟨by have := HJ4.out; have := HJ7.out; have := HK3.out; have := HK4.out; omega⟩, ⟨kdMv HO_10⟩, ⟨kdMv HO512⟩, ⟨belNow⟩⟩
end Go.Proofs.YtecjoofjiockkaaGreatDoor.Pp
