/-
  apply.Find's closure, and apply.nearest over it; walked by hand.
-/
import Derived.Test.YtkoagpnoaibdjaaELeft
import Derived.Test.YtkoagpnoaibdjaaPp7
import Derived.Test.YtkoagpnoaibdjaaETail
namespace Go.Proofs.Ytkoagpnoaibdjaa.Ext
open Go.RowKit Go.Proofs.Ytkoagpnoaibdjaa.Pp Go.Proofs.YtkoagpnoaibdjaaW.PrintWords Go.Proofs.YtkoagpnoaibdjaaW.PrintLast Go.Proofs.YtkoagpnoaibdjaaW.PrintMore
set_option linter.unusedVariables false
set_option linter.unusedSimpArgs false
attribute [local go_sem] max_two min_two max_three min_three max_four min_four
theorem drawn_trans {a b c : World} (h : Drawn0 a b) (k : Drawn0 b c) : Drawn0 a c := by
  obtain ⟨n, rfl⟩ := k.out
  exact h.step n
def matchF (k : Nat) (l old : List ByteArray) (kk q : Int) : Option Bool :=
  if 0 ≤ wrap64 (q + kk) ∧ wrap64 (q + kk) ≤ wrap64 (wrap64 (q + kk) + l.length) ∧ wrap64 (wrap64 (q + kk) + l.length) ≤ old.length then
    slices_Equal_string_string.f k l (cutL old (wrap64 (q + kk)) (wrap64 (wrap64 (q + kk) + l.length))) else none
theorem matchF.mono (l old : List ByteArray) (kk q : Int) (k : Nat) : LeO (matchF k l old kk q) (matchF (k + 1) l old kk q) := by
  unfold matchF
  exact LeO.ite (slices_Equal_string_string.mono _ _ _) (LeO.refl _)
set_option maxHeartbeats 4000000 in
set_option maxRecDepth 100000 in
theorem match.calls (k bL bO bK : Nat) (Al Ao : Option Addr) (cl co : Nat) (l old : List ByteArray) (kk q : Int) (r : Bool) (w : World)
    (hL : w.heap[bL]? = some (.cells #[.slice Al l.length cl] 23 (0, 0))) (hO : w.heap[bO]? = some (.cells #[.slice Ao old.length co] 23 (0, 0))) (hK : w.heap[bK]? = some (.cells #[.int .i64 kk] 3 (0, 0)))
    (hrl : Kd.C Kd.string w Al l.length l) (hcl : l.length ≤ cl) (hro : Kd.C Kd.string w Ao old.length old) (hco : old.length ≤ co) (h : matchF k l old kk q = some r) :
    Calls Try.prog 43 #[.int .i64 q, .pointer (some ⟨bL, 0, none⟩), .pointer (some ⟨bO, 0, none⟩), .pointer (some ⟨bK, 0, none⟩)] w
      fun e w' => e = .returned (.bool r) ∧ Drawn0 w w' := by
  have cL := cell_of_one hL
  have cO := cell_of_one hO
  have cK := cell_of_one hK
  unfold matchF at h
  split at h
  case isFalse => cases h
  rename_i hc
  obtain ⟨h1, h2, h3⟩ := hc
  obtain ⟨i0, hi0, _, hsz, _⟩ := info_parts info9
  obtain ⟨A', hcut, hrc, hcc⟩ := cut_rows Kd.string 23 9 Try.underlying23 hi0 hsz Ao co old (wrap64 (q + kk)) (wrap64 (wrap64 (q + kk) + l.length)) h1 h2 h3 hco
  have hcut2 : ∀ (W : World), (Instr.slice 23 (.slice Ao old.length co) (some (.int .i64 (IntKind.i64.wrap (q + kk)))) (some (.int .i64 (IntKind.i64.wrap (IntKind.i64.wrap (q + kk) + l.length)))) none).run Try.prog W = .ok (.slice A' (cutL old (wrap64 (q + kk)) (wrap64 (wrap64 (q + kk) + l.length))).length (co - (wrap64 (q + kk)).toNat)) W := by intro W; rw [i64_w, i64_w]; exact hcut W
  clear h1 h2 h3
  have HR2 := hrc w hro
  go_enter Try.func43, Try.ntmps43
  go_upto_region 1 with (fail)
  refine wp_region_quiet_last 13 _ rfl (by kernel_rfl) (by kernel_rfl) (by kernel_rfl) (by kernel_rfl) ?_
  simp only [List.take_succ_cons, List.take_zero]
  repeat (go_big_quiet_step (exact Calls.quiet_of ((slices_Equal_string_string.calls k Al cl l A' _ (cutL old (wrap64 (q + kk)) (wrap64 (wrap64 (q + kk) + l.length))) r _ (Kd.C_drewN hrl _) hcl (Kd.C_drewN HR2 _) hcc h).mono (fun e w' he => ⟨he.1, he.2.out⟩))))
  refine wpQuiet_nil ?_
  rintro w' ⟨nq, rfl⟩
  go_wp2
  go_ret
  exact ⟨rfl, ⟨⟨nq, rfl⟩⟩⟩
def nearL (mt : Int → Option Bool) (near lo hi : Int) : Nat → Int → Int → Option (Int × Bool)
  | 0, _, _ => none
  | g + 1, down, up =>
    if hi < up then
      (if lo ≤ down then (mt down).bind fun b => if b = true then some (down, true) else nearL mt near lo hi g (wrap64 (down - 1)) up else some (0, false))
    else if lo ≤ down then
      (apply_far.f near down).bind fun x => (apply_far.f up near).bind fun y =>
        if x ≤ y then (mt down).bind fun b => if b = true then some (down, true) else nearL mt near lo hi g (wrap64 (down - 1)) up
        else (mt up).bind fun b => if b = true then some (up, true) else nearL mt near lo hi g down (wrap64 (up + 1))
    else (mt up).bind fun b => if b = true then some (up, true) else nearL mt near lo hi g down (wrap64 (up + 1))
theorem nearL.mono {mt mt' : Int → Option Bool} (h : ∀ q, LeO (mt q) (mt' q)) (near lo hi : Int) : ∀ (g : Nat) (d u : Int), LeO (nearL mt near lo hi g d u) (nearL mt' near lo hi (g + 1) d u)
  | 0, _, _ => LeO.none _
  | g + 1, d, u => by
    unfold nearL
    have ih := nearL.mono h near lo hi g
    exact LeO.ite (LeO.ite (LeO.bind (h _) fun _ => LeO.ite (LeO.refl _) (ih _ _)) (LeO.refl _))
      (LeO.ite (LeO.bind (LeO.refl _) fun _ => LeO.bind (LeO.refl _) fun _ => LeO.ite (LeO.bind (h _) fun _ => LeO.ite (LeO.refl _) (ih _ _)) (LeO.bind (h _) fun _ => LeO.ite (LeO.refl _) (ih _ _)))
        (LeO.bind (h _) fun _ => LeO.ite (LeO.refl _) (ih _ _)))
def downF (near hi : Int) : Int := if hi < near then hi else near
def upF (near lo hi : Int) : Int := if lo ≤ near then (if near < hi then wrap64 (near + 1) else wrap64 (hi + 1)) else lo
def nearF (mt : Int → Option Bool) (k : Nat) (near lo hi : Int) : Option (Int × Bool) := nearL mt near lo hi k (downF near hi) (upF near lo hi)
set_option maxHeartbeats 8000000 in
set_option maxRecDepth 100000 in
theorem near.calls (mt : Int → Option Bool) (k : Nat) (p1 p2 p3 : Value) (near lo hi r1 : Int) (r2 : Bool) (w : World)
    (hmt : ∀ (q : Int) (r : Bool) (W : World), Drawn0 w W → mt q = some r → Calls Try.prog 43 #[.int .i64 q, p1, p2, p3] W fun e w' => e = .returned (.bool r) ∧ Drawn0 W w')
    (h : nearF mt k near lo hi = some (r1, r2)) :
    Calls Try.prog 42 #[.int .i64 near, .int .i64 lo, .int .i64 hi, .func (.func 43) #[] #[p1, p2, p3]] w
      fun e w' => e = .returned (.tuple #[.int .i64 r1, .bool r2]) ∧ Drawn0 w w' := by
  unfold nearF at h
  have H0 := Aside0.mk h
  have HM := Aside0.mk hmt
  clear h hmt
  have hmin : ∀ k k' : IntKind, Builtin.min2 (.int k near) (.int k' hi) = pure (.int k (downF near hi)) := fun k k' => min2_int k k' near hi
  obtain ⟨D, hD⟩ : ∃ z, z = downF near hi := ⟨_, rfl⟩
  rw [← hD] at H0 hmin
  clear hD
  by_cases c1 : lo ≤ near
  · have b0 : decide (lo ≤ near) = true := decide_eq_true c1
    by_cases c2 : near < hi
    · have b1 : decide (near < hi) = true := decide_eq_true c2
      rw [show upF near lo hi = wrap64 (near + 1) by unfold upF; rw [if_pos c1, if_pos c2]] at H0
      clear c1 c2
      go_enter Try.func42, Try.ntmps42
      go_wp2
      go_loopg [10, 11] k (fun kq v10 v11 w' => ∃ (d u : Int), v10 = .int .i64 d ∧ v11 = .int .i64 u ∧ Aside0 (nearL mt near lo hi kq d u = some (r1, r2)) ∧ Aside0 (Drawn0 w w'))
      case atStart => exact ⟨_, _, rfl, rfl, H0, ⟨by first | exact Drawn0.refl _ | exact (Drawn0.refl _).step _⟩⟩
      case round =>
        clear H0
        obtain ⟨d, u, rfl, rfl, H, HD⟩ := hrel
        have H1 := H.out
        clear H
        cases gk with
        | zero => simp [nearL] at H1
        | succ gk2 =>
        have HK : Aside0 (gk2 < gk2 + 1) := ⟨by omega⟩
        simp only [nearL] at H1
        by_cases t1 : hi < u
        · rw [if_pos t1] at H1
          have b1 : decide (hi < u) = true := decide_eq_true t1
          have b2 : decide (u ≤ hi) = false := decide_eq_false (by omega)
          by_cases t2 : lo ≤ d
          · rw [if_pos t2] at H1
            have b3 : decide (lo ≤ d) = true := decide_eq_true t2
            clear t1 t2
            obtain ⟨b, hb, H1⟩ := Option.bind_eq_some_iff.mp H1
            have HB := Aside0.mk hb
            clear hb
            cases b with
            | true =>
              rw [if_pos rfl] at H1
              simp only [Option.some.injEq, Prod.mk.injEq] at H1
              obtain ⟨rfl, rfl⟩ := H1
              go_wp2_with (first | (go_at_call 43; (with_reducible refine (HM.out d true _ HD.out HB.out).mono ?_); rintro e w' ⟨rfl, hd_⟩; have HD2 := Aside0.mk (drawn_trans HD.out hd_); clear hd_))
              go_ret2
              exact ⟨rfl, HD2.out⟩
            | false =>
              rw [if_neg (by simp)] at H1
              have H2 := Aside0.mk H1
              clear H1
              go_wp2_with (first | (go_at_call 43; (with_reducible refine (HM.out d false _ HD.out HB.out).mono ?_); rintro e w' ⟨rfl, hd_⟩; have HD2 := Aside0.mk (drawn_trans HD.out hd_); clear hd_))
              go_roundg gk2
              case measure => have := HK.out; omega
              case rel => exact ⟨_, _, rfl, rfl, H2, HD2⟩
          · rw [if_neg t2] at H1
            have b3 : decide (lo ≤ d) = false := decide_eq_false t2
            clear t1 t2
            simp only [Option.some.injEq, Prod.mk.injEq] at H1
            obtain ⟨rfl, rfl⟩ := H1
            go_wp2
            go_ret2
            exact ⟨rfl, HD.out⟩
        · rw [if_neg t1] at H1
          have b1 : decide (hi < u) = false := decide_eq_false t1
          have b2 : decide (u ≤ hi) = true := decide_eq_true (by omega)
          by_cases t2 : lo ≤ d
          · rw [if_pos t2] at H1
            have b3 : decide (lo ≤ d) = true := decide_eq_true t2
            clear t1 t2
            obtain ⟨x, hx, H1⟩ := Option.bind_eq_some_iff.mp H1
            obtain ⟨y, hy, H1⟩ := Option.bind_eq_some_iff.mp H1
            have HX := Aside0.mk hx
            have HY := Aside0.mk hy
            clear hx hy
            by_cases t3 : x ≤ y
            · rw [if_pos t3] at H1
              have b4 : decide (x ≤ y) = true := decide_eq_true t3
              clear t3
              obtain ⟨b, hb, H1⟩ := Option.bind_eq_some_iff.mp H1
              have HB := Aside0.mk hb
              clear hb
              cases b with
              | true =>
                rw [if_pos rfl] at H1
                simp only [Option.some.injEq, Prod.mk.injEq] at H1
                obtain ⟨rfl, rfl⟩ := H1
                go_wp2_with (first | (go_at_call 63; (with_reducible refine (apply_far.calls near d x _ HX.out).mono ?_); rintro e w' ⟨rfl, hd_⟩; have HD1 := Aside0.mk (drawn_trans HD.out hd_); clear HD hd_; have HD := HD1; clear HD1) | (go_at_call 63; (with_reducible refine (apply_far.calls u near y _ HY.out).mono ?_); rintro e w' ⟨rfl, hd_⟩; have HD1 := Aside0.mk (drawn_trans HD.out hd_); clear HD hd_; have HD := HD1; clear HD1) | (go_at_call 43; (with_reducible refine (HM.out d true _ HD.out HB.out).mono ?_); rintro e w' ⟨rfl, hd_⟩; have HD2 := Aside0.mk (drawn_trans HD.out hd_); clear hd_))
                go_ret2
                exact ⟨rfl, HD2.out⟩
              | false =>
                rw [if_neg (by simp)] at H1
                have H2 := Aside0.mk H1
                clear H1
                go_wp2_with (first | (go_at_call 63; (with_reducible refine (apply_far.calls near d x _ HX.out).mono ?_); rintro e w' ⟨rfl, hd_⟩; have HD1 := Aside0.mk (drawn_trans HD.out hd_); clear HD hd_; have HD := HD1; clear HD1) | (go_at_call 63; (with_reducible refine (apply_far.calls u near y _ HY.out).mono ?_); rintro e w' ⟨rfl, hd_⟩; have HD1 := Aside0.mk (drawn_trans HD.out hd_); clear HD hd_; have HD := HD1; clear HD1) | (go_at_call 43; (with_reducible refine (HM.out d false _ HD.out HB.out).mono ?_); rintro e w' ⟨rfl, hd_⟩; have HD2 := Aside0.mk (drawn_trans HD.out hd_); clear hd_))
                go_roundg gk2
                case measure => have := HK.out; omega
                case rel => exact ⟨_, _, rfl, rfl, H2, HD2⟩
            · rw [if_neg t3] at H1
              have b4 : decide (x ≤ y) = false := decide_eq_false t3
              clear t3
              obtain ⟨b, hb, H1⟩ := Option.bind_eq_some_iff.mp H1
              have HB := Aside0.mk hb
              clear hb
              cases b with
              | true =>
                rw [if_pos rfl] at H1
                simp only [Option.some.injEq, Prod.mk.injEq] at H1
                obtain ⟨rfl, rfl⟩ := H1
                go_wp2_with (first | (go_at_call 63; (with_reducible refine (apply_far.calls near d x _ HX.out).mono ?_); rintro e w' ⟨rfl, hd_⟩; have HD1 := Aside0.mk (drawn_trans HD.out hd_); clear HD hd_; have HD := HD1; clear HD1) | (go_at_call 63; (with_reducible refine (apply_far.calls u near y _ HY.out).mono ?_); rintro e w' ⟨rfl, hd_⟩; have HD1 := Aside0.mk (drawn_trans HD.out hd_); clear HD hd_; have HD := HD1; clear HD1) | (go_at_call 43; (with_reducible refine (HM.out u true _ HD.out HB.out).mono ?_); rintro e w' ⟨rfl, hd_⟩; have HD2 := Aside0.mk (drawn_trans HD.out hd_); clear hd_))
                go_ret2
                exact ⟨rfl, HD2.out⟩
              | false =>
                rw [if_neg (by simp)] at H1
                have H2 := Aside0.mk H1
                clear H1
                go_wp2_with (first | (go_at_call 63; (with_reducible refine (apply_far.calls near d x _ HX.out).mono ?_); rintro e w' ⟨rfl, hd_⟩; have HD1 := Aside0.mk (drawn_trans HD.out hd_); clear HD hd_; have HD := HD1; clear HD1) | (go_at_call 63; (with_reducible refine (apply_far.calls u near y _ HY.out).mono ?_); rintro e w' ⟨rfl, hd_⟩; have HD1 := Aside0.mk (drawn_trans HD.out hd_); clear HD hd_; have HD := HD1; clear HD1) | (go_at_call 43; (with_reducible refine (HM.out u false _ HD.out HB.out).mono ?_); rintro e w' ⟨rfl, hd_⟩; have HD2 := Aside0.mk (drawn_trans HD.out hd_); clear hd_))
                go_roundg gk2
                case measure => have := HK.out; omega
                case rel => exact ⟨_, _, rfl, rfl, H2, HD2⟩
          · rw [if_neg t2] at H1
            have b3 : decide (lo ≤ d) = false := decide_eq_false t2
            clear t1 t2
            obtain ⟨b, hb, H1⟩ := Option.bind_eq_some_iff.mp H1
            have HB := Aside0.mk hb
            clear hb
            cases b with
            | true =>
              rw [if_pos rfl] at H1
              simp only [Option.some.injEq, Prod.mk.injEq] at H1
              obtain ⟨rfl, rfl⟩ := H1
              go_wp2_with (first | (go_at_call 43; (with_reducible refine (HM.out u true _ HD.out HB.out).mono ?_); rintro e w' ⟨rfl, hd_⟩; have HD2 := Aside0.mk (drawn_trans HD.out hd_); clear hd_))
              go_ret2
              exact ⟨rfl, HD2.out⟩
            | false =>
              rw [if_neg (by simp)] at H1
              have H2 := Aside0.mk H1
              clear H1
              go_wp2_with (first | (go_at_call 43; (with_reducible refine (HM.out u false _ HD.out HB.out).mono ?_); rintro e w' ⟨rfl, hd_⟩; have HD2 := Aside0.mk (drawn_trans HD.out hd_); clear hd_))
              go_roundg gk2
              case measure => have := HK.out; omega
              case rel => exact ⟨_, _, rfl, rfl, H2, HD2⟩
    · have b1 : decide (near < hi) = false := decide_eq_false c2
      rw [show upF near lo hi = wrap64 (hi + 1) by unfold upF; rw [if_pos c1, if_neg c2]] at H0
      clear c1 c2
      go_enter Try.func42, Try.ntmps42
      go_wp2
      go_loopg [10, 11] k (fun kq v10 v11 w' => ∃ (d u : Int), v10 = .int .i64 d ∧ v11 = .int .i64 u ∧ Aside0 (nearL mt near lo hi kq d u = some (r1, r2)) ∧ Aside0 (Drawn0 w w'))
      case atStart => exact ⟨_, _, rfl, rfl, H0, ⟨by first | exact Drawn0.refl _ | exact (Drawn0.refl _).step _⟩⟩
      case round =>
        clear H0
        obtain ⟨d, u, rfl, rfl, H, HD⟩ := hrel
        have H1 := H.out
        clear H
        cases gk with
        | zero => simp [nearL] at H1
        | succ gk2 =>
        have HK : Aside0 (gk2 < gk2 + 1) := ⟨by omega⟩
        simp only [nearL] at H1
        by_cases t1 : hi < u
        · rw [if_pos t1] at H1
          have b1 : decide (hi < u) = true := decide_eq_true t1
          have b2 : decide (u ≤ hi) = false := decide_eq_false (by omega)
          by_cases t2 : lo ≤ d
          · rw [if_pos t2] at H1
            have b3 : decide (lo ≤ d) = true := decide_eq_true t2
            clear t1 t2
            obtain ⟨b, hb, H1⟩ := Option.bind_eq_some_iff.mp H1
            have HB := Aside0.mk hb
            clear hb
            cases b with
            | true =>
              rw [if_pos rfl] at H1
              simp only [Option.some.injEq, Prod.mk.injEq] at H1
              obtain ⟨rfl, rfl⟩ := H1
              go_wp2_with (first | (go_at_call 43; (with_reducible refine (HM.out d true _ HD.out HB.out).mono ?_); rintro e w' ⟨rfl, hd_⟩; have HD2 := Aside0.mk (drawn_trans HD.out hd_); clear hd_))
              go_ret2
              exact ⟨rfl, HD2.out⟩
            | false =>
              rw [if_neg (by simp)] at H1
              have H2 := Aside0.mk H1
              clear H1
              go_wp2_with (first | (go_at_call 43; (with_reducible refine (HM.out d false _ HD.out HB.out).mono ?_); rintro e w' ⟨rfl, hd_⟩; have HD2 := Aside0.mk (drawn_trans HD.out hd_); clear hd_))
              go_roundg gk2
              case measure => have := HK.out; omega
              case rel => exact ⟨_, _, rfl, rfl, H2, HD2⟩
          · rw [if_neg t2] at H1
            have b3 : decide (lo ≤ d) = false := decide_eq_false t2
            clear t1 t2
            simp only [Option.some.injEq, Prod.mk.injEq] at H1
            obtain ⟨rfl, rfl⟩ := H1
            go_wp2
            go_ret2
            exact ⟨rfl, HD.out⟩
        · rw [if_neg t1] at H1
          have b1 : decide (hi < u) = false := decide_eq_false t1
          have b2 : decide (u ≤ hi) = true := decide_eq_true (by omega)
          by_cases t2 : lo ≤ d
          · rw [if_pos t2] at H1
            have b3 : decide (lo ≤ d) = true := decide_eq_true t2
            clear t1 t2
            obtain ⟨x, hx, H1⟩ := Option.bind_eq_some_iff.mp H1
            obtain ⟨y, hy, H1⟩ := Option.bind_eq_some_iff.mp H1
            have HX := Aside0.mk hx
            have HY := Aside0.mk hy
            clear hx hy
            by_cases t3 : x ≤ y
            · rw [if_pos t3] at H1
              have b4 : decide (x ≤ y) = true := decide_eq_true t3
              clear t3
              obtain ⟨b, hb, H1⟩ := Option.bind_eq_some_iff.mp H1
              have HB := Aside0.mk hb
              clear hb
              cases b with
              | true =>
                rw [if_pos rfl] at H1
                simp only [Option.some.injEq, Prod.mk.injEq] at H1
                obtain ⟨rfl, rfl⟩ := H1
                go_wp2_with (first | (go_at_call 63; (with_reducible refine (apply_far.calls near d x _ HX.out).mono ?_); rintro e w' ⟨rfl, hd_⟩; have HD1 := Aside0.mk (drawn_trans HD.out hd_); clear HD hd_; have HD := HD1; clear HD1) | (go_at_call 63; (with_reducible refine (apply_far.calls u near y _ HY.out).mono ?_); rintro e w' ⟨rfl, hd_⟩; have HD1 := Aside0.mk (drawn_trans HD.out hd_); clear HD hd_; have HD := HD1; clear HD1) | (go_at_call 43; (with_reducible refine (HM.out d true _ HD.out HB.out).mono ?_); rintro e w' ⟨rfl, hd_⟩; have HD2 := Aside0.mk (drawn_trans HD.out hd_); clear hd_))
                go_ret2
                exact ⟨rfl, HD2.out⟩
              | false =>
                rw [if_neg (by simp)] at H1
                have H2 := Aside0.mk H1
                clear H1
                go_wp2_with (first | (go_at_call 63; (with_reducible refine (apply_far.calls near d x _ HX.out).mono ?_); rintro e w' ⟨rfl, hd_⟩; have HD1 := Aside0.mk (drawn_trans HD.out hd_); clear HD hd_; have HD := HD1; clear HD1) | (go_at_call 63; (with_reducible refine (apply_far.calls u near y _ HY.out).mono ?_); rintro e w' ⟨rfl, hd_⟩; have HD1 := Aside0.mk (drawn_trans HD.out hd_); clear HD hd_; have HD := HD1; clear HD1) | (go_at_call 43; (with_reducible refine (HM.out d false _ HD.out HB.out).mono ?_); rintro e w' ⟨rfl, hd_⟩; have HD2 := Aside0.mk (drawn_trans HD.out hd_); clear hd_))
                go_roundg gk2
                case measure => have := HK.out; omega
                case rel => exact ⟨_, _, rfl, rfl, H2, HD2⟩
            · rw [if_neg t3] at H1
              have b4 : decide (x ≤ y) = false := decide_eq_false t3
              clear t3
              obtain ⟨b, hb, H1⟩ := Option.bind_eq_some_iff.mp H1
              have HB := Aside0.mk hb
              clear hb
              cases b with
              | true =>
                rw [if_pos rfl] at H1
                simp only [Option.some.injEq, Prod.mk.injEq] at H1
                obtain ⟨rfl, rfl⟩ := H1
                go_wp2_with (first | (go_at_call 63; (with_reducible refine (apply_far.calls near d x _ HX.out).mono ?_); rintro e w' ⟨rfl, hd_⟩; have HD1 := Aside0.mk (drawn_trans HD.out hd_); clear HD hd_; have HD := HD1; clear HD1) | (go_at_call 63; (with_reducible refine (apply_far.calls u near y _ HY.out).mono ?_); rintro e w' ⟨rfl, hd_⟩; have HD1 := Aside0.mk (drawn_trans HD.out hd_); clear HD hd_; have HD := HD1; clear HD1) | (go_at_call 43; (with_reducible refine (HM.out u true _ HD.out HB.out).mono ?_); rintro e w' ⟨rfl, hd_⟩; have HD2 := Aside0.mk (drawn_trans HD.out hd_); clear hd_))
                go_ret2
                exact ⟨rfl, HD2.out⟩
              | false =>
                rw [if_neg (by simp)] at H1
                have H2 := Aside0.mk H1
                clear H1
                go_wp2_with (first | (go_at_call 63; (with_reducible refine (apply_far.calls near d x _ HX.out).mono ?_); rintro e w' ⟨rfl, hd_⟩; have HD1 := Aside0.mk (drawn_trans HD.out hd_); clear HD hd_; have HD := HD1; clear HD1) | (go_at_call 63; (with_reducible refine (apply_far.calls u near y _ HY.out).mono ?_); rintro e w' ⟨rfl, hd_⟩; have HD1 := Aside0.mk (drawn_trans HD.out hd_); clear HD hd_; have HD := HD1; clear HD1) | (go_at_call 43; (with_reducible refine (HM.out u false _ HD.out HB.out).mono ?_); rintro e w' ⟨rfl, hd_⟩; have HD2 := Aside0.mk (drawn_trans HD.out hd_); clear hd_))
                go_roundg gk2
                case measure => have := HK.out; omega
                case rel => exact ⟨_, _, rfl, rfl, H2, HD2⟩
          · rw [if_neg t2] at H1
            have b3 : decide (lo ≤ d) = false := decide_eq_false t2
            clear t1 t2
            obtain ⟨b, hb, H1⟩ := Option.bind_eq_some_iff.mp H1
            have HB := Aside0.mk hb
            clear hb
            cases b with
            | true =>
              rw [if_pos rfl] at H1
              simp only [Option.some.injEq, Prod.mk.injEq] at H1
              obtain ⟨rfl, rfl⟩ := H1
              go_wp2_with (first | (go_at_call 43; (with_reducible refine (HM.out u true _ HD.out HB.out).mono ?_); rintro e w' ⟨rfl, hd_⟩; have HD2 := Aside0.mk (drawn_trans HD.out hd_); clear hd_))
              go_ret2
              exact ⟨rfl, HD2.out⟩
            | false =>
              rw [if_neg (by simp)] at H1
              have H2 := Aside0.mk H1
              clear H1
              go_wp2_with (first | (go_at_call 43; (with_reducible refine (HM.out u false _ HD.out HB.out).mono ?_); rintro e w' ⟨rfl, hd_⟩; have HD2 := Aside0.mk (drawn_trans HD.out hd_); clear hd_))
              go_roundg gk2
              case measure => have := HK.out; omega
              case rel => exact ⟨_, _, rfl, rfl, H2, HD2⟩
  · have b0 : decide (lo ≤ near) = false := decide_eq_false c1
    rw [show upF near lo hi = lo by unfold upF; rw [if_neg c1]] at H0
    clear c1
    go_enter Try.func42, Try.ntmps42
    go_wp2
    go_loopg [10, 11] k (fun kq v10 v11 w' => ∃ (d u : Int), v10 = .int .i64 d ∧ v11 = .int .i64 u ∧ Aside0 (nearL mt near lo hi kq d u = some (r1, r2)) ∧ Aside0 (Drawn0 w w'))
    case atStart => exact ⟨_, _, rfl, rfl, H0, ⟨by first | exact Drawn0.refl _ | exact (Drawn0.refl _).step _⟩⟩
    case round =>
      clear H0
      obtain ⟨d, u, rfl, rfl, H, HD⟩ := hrel
      have H1 := H.out
      clear H
      cases gk with
      | zero => simp [nearL] at H1
      | succ gk2 =>
      have HK : Aside0 (gk2 < gk2 + 1) := ⟨by omega⟩
      simp only [nearL] at H1
      by_cases t1 : hi < u
      · rw [if_pos t1] at H1
        have b1 : decide (hi < u) = true := decide_eq_true t1
        have b2 : decide (u ≤ hi) = false := decide_eq_false (by omega)
        by_cases t2 : lo ≤ d
        · rw [if_pos t2] at H1
          have b3 : decide (lo ≤ d) = true := decide_eq_true t2
          clear t1 t2
          obtain ⟨b, hb, H1⟩ := Option.bind_eq_some_iff.mp H1
          have HB := Aside0.mk hb
          clear hb
          cases b with
          | true =>
            rw [if_pos rfl] at H1
            simp only [Option.some.injEq, Prod.mk.injEq] at H1
            obtain ⟨rfl, rfl⟩ := H1
            go_wp2_with (first | (go_at_call 43; (with_reducible refine (HM.out d true _ HD.out HB.out).mono ?_); rintro e w' ⟨rfl, hd_⟩; have HD2 := Aside0.mk (drawn_trans HD.out hd_); clear hd_))
            go_ret2
            exact ⟨rfl, HD2.out⟩
          | false =>
            rw [if_neg (by simp)] at H1
            have H2 := Aside0.mk H1
            clear H1
            go_wp2_with (first | (go_at_call 43; (with_reducible refine (HM.out d false _ HD.out HB.out).mono ?_); rintro e w' ⟨rfl, hd_⟩; have HD2 := Aside0.mk (drawn_trans HD.out hd_); clear hd_))
            go_roundg gk2
            case measure => have := HK.out; omega
            case rel => exact ⟨_, _, rfl, rfl, H2, HD2⟩
        · rw [if_neg t2] at H1
          have b3 : decide (lo ≤ d) = false := decide_eq_false t2
          clear t1 t2
          simp only [Option.some.injEq, Prod.mk.injEq] at H1
          obtain ⟨rfl, rfl⟩ := H1
          go_wp2
          go_ret2
          exact ⟨rfl, HD.out⟩
      · rw [if_neg t1] at H1
        have b1 : decide (hi < u) = false := decide_eq_false t1
        have b2 : decide (u ≤ hi) = true := decide_eq_true (by omega)
        by_cases t2 : lo ≤ d
        · rw [if_pos t2] at H1
          have b3 : decide (lo ≤ d) = true := decide_eq_true t2
          clear t1 t2
          obtain ⟨x, hx, H1⟩ := Option.bind_eq_some_iff.mp H1
          obtain ⟨y, hy, H1⟩ := Option.bind_eq_some_iff.mp H1
          have HX := Aside0.mk hx
          have HY := Aside0.mk hy
          clear hx hy
          by_cases t3 : x ≤ y
          · rw [if_pos t3] at H1
            have b4 : decide (x ≤ y) = true := decide_eq_true t3
            clear t3
            obtain ⟨b, hb, H1⟩ := Option.bind_eq_some_iff.mp H1
            have HB := Aside0.mk hb
            clear hb
            cases b with
            | true =>
              rw [if_pos rfl] at H1
              simp only [Option.some.injEq, Prod.mk.injEq] at H1
              obtain ⟨rfl, rfl⟩ := H1
              go_wp2_with (first | (go_at_call 63; (with_reducible refine (apply_far.calls near d x _ HX.out).mono ?_); rintro e w' ⟨rfl, hd_⟩; have HD1 := Aside0.mk (drawn_trans HD.out hd_); clear HD hd_; have HD := HD1; clear HD1) | (go_at_call 63; (with_reducible refine (apply_far.calls u near y _ HY.out).mono ?_); rintro e w' ⟨rfl, hd_⟩; have HD1 := Aside0.mk (drawn_trans HD.out hd_); clear HD hd_; have HD := HD1; clear HD1) | (go_at_call 43; (with_reducible refine (HM.out d true _ HD.out HB.out).mono ?_); rintro e w' ⟨rfl, hd_⟩; have HD2 := Aside0.mk (drawn_trans HD.out hd_); clear hd_))
              go_ret2
              exact ⟨rfl, HD2.out⟩
            | false =>
              rw [if_neg (by simp)] at H1
              have H2 := Aside0.mk H1
              clear H1
              go_wp2_with (first | (go_at_call 63; (with_reducible refine (apply_far.calls near d x _ HX.out).mono ?_); rintro e w' ⟨rfl, hd_⟩; have HD1 := Aside0.mk (drawn_trans HD.out hd_); clear HD hd_; have HD := HD1; clear HD1) | (go_at_call 63; (with_reducible refine (apply_far.calls u near y _ HY.out).mono ?_); rintro e w' ⟨rfl, hd_⟩; have HD1 := Aside0.mk (drawn_trans HD.out hd_); clear HD hd_; have HD := HD1; clear HD1) | (go_at_call 43; (with_reducible refine (HM.out d false _ HD.out HB.out).mono ?_); rintro e w' ⟨rfl, hd_⟩; have HD2 := Aside0.mk (drawn_trans HD.out hd_); clear hd_))
              go_roundg gk2
              case measure => have := HK.out; omega
              case rel => exact ⟨_, _, rfl, rfl, H2, HD2⟩
          · rw [if_neg t3] at H1
            have b4 : decide (x ≤ y) = false := decide_eq_false t3
            clear t3
            obtain ⟨b, hb, H1⟩ := Option.bind_eq_some_iff.mp H1
            have HB := Aside0.mk hb
            clear hb
            cases b with
            | true =>
              rw [if_pos rfl] at H1
              simp only [Option.some.injEq, Prod.mk.injEq] at H1
              obtain ⟨rfl, rfl⟩ := H1
              go_wp2_with (first | (go_at_call 63; (with_reducible refine (apply_far.calls near d x _ HX.out).mono ?_); rintro e w' ⟨rfl, hd_⟩; have HD1 := Aside0.mk (drawn_trans HD.out hd_); clear HD hd_; have HD := HD1; clear HD1) | (go_at_call 63; (with_reducible refine (apply_far.calls u near y _ HY.out).mono ?_); rintro e w' ⟨rfl, hd_⟩; have HD1 := Aside0.mk (drawn_trans HD.out hd_); clear HD hd_; have HD := HD1; clear HD1) | (go_at_call 43; (with_reducible refine (HM.out u true _ HD.out HB.out).mono ?_); rintro e w' ⟨rfl, hd_⟩; have HD2 := Aside0.mk (drawn_trans HD.out hd_); clear hd_))
              go_ret2
              exact ⟨rfl, HD2.out⟩
            | false =>
              rw [if_neg (by simp)] at H1
              have H2 := Aside0.mk H1
              clear H1
              go_wp2_with (first | (go_at_call 63; (with_reducible refine (apply_far.calls near d x _ HX.out).mono ?_); rintro e w' ⟨rfl, hd_⟩; have HD1 := Aside0.mk (drawn_trans HD.out hd_); clear HD hd_; have HD := HD1; clear HD1) | (go_at_call 63; (with_reducible refine (apply_far.calls u near y _ HY.out).mono ?_); rintro e w' ⟨rfl, hd_⟩; have HD1 := Aside0.mk (drawn_trans HD.out hd_); clear HD hd_; have HD := HD1; clear HD1) | (go_at_call 43; (with_reducible refine (HM.out u false _ HD.out HB.out).mono ?_); rintro e w' ⟨rfl, hd_⟩; have HD2 := Aside0.mk (drawn_trans HD.out hd_); clear hd_))
              go_roundg gk2
              case measure => have := HK.out; omega
              case rel => exact ⟨_, _, rfl, rfl, H2, HD2⟩
        · rw [if_neg t2] at H1
          have b3 : decide (lo ≤ d) = false := decide_eq_false t2
          clear t1 t2
          obtain ⟨b, hb, H1⟩ := Option.bind_eq_some_iff.mp H1
          have HB := Aside0.mk hb
          clear hb
          cases b with
          | true =>
            rw [if_pos rfl] at H1
            simp only [Option.some.injEq, Prod.mk.injEq] at H1
            obtain ⟨rfl, rfl⟩ := H1
            go_wp2_with (first | (go_at_call 43; (with_reducible refine (HM.out u true _ HD.out HB.out).mono ?_); rintro e w' ⟨rfl, hd_⟩; have HD2 := Aside0.mk (drawn_trans HD.out hd_); clear hd_))
            go_ret2
            exact ⟨rfl, HD2.out⟩
          | false =>
            rw [if_neg (by simp)] at H1
            have H2 := Aside0.mk H1
            clear H1
            go_wp2_with (first | (go_at_call 43; (with_reducible refine (HM.out u false _ HD.out HB.out).mono ?_); rintro e w' ⟨rfl, hd_⟩; have HD2 := Aside0.mk (drawn_trans HD.out hd_); clear hd_))
            go_roundg gk2
            case measure => have := HK.out; omega
            case rel => exact ⟨_, _, rfl, rfl, H2, HD2⟩
end Go.Proofs.Ytkoagpnoaibdjaa.Ext
