/-
  selvageref17.Left and Find; walked by hand.
-/
import Derived.Test.YtkoagpnoaibdjaaELeft
import Derived.Test.YtkoagpnoaibdjaaPp18
import Derived.Test.YtkoagpnoaibdjaaPp19
import Derived.Test.YtkoagpnoaibdjaaEApply
import Derived.Test.YtkoagpnoaibdjaaPp1
namespace Go.Proofs.Ytkoagpnoaibdjaa.Ext
open Go.RowKit Go.Proofs.Ytkoagpnoaibdjaa.Pp Go.Proofs.YtkoagpnoaibdjaaW.PrintWords Go.Proofs.YtkoagpnoaibdjaaW.PrintLast Go.Proofs.YtkoagpnoaibdjaaW.PrintMore
set_option linter.unusedVariables false
set_option linter.unusedSimpArgs false
attribute [local go_sem] max_two min_two
def minF (a b : Int) : Int := if b < a then b else a
structure BoxIn (w0 : World) (A5 : Option Addr) (c5 : Nat) (h : S41) (g6 : Nat) (w : World) : Prop where
  below : Below w0.heap.size w0 w
  b6 : w.heap[g6]? = some (.cells #[.int .i64 h.f0, .int .i64 h.f1, .int .i64 h.f2, .int .i64 h.f3, .string h.f4, .slice A5 h.f5.length c5] 41 (0, 0))
section
variable {w0 w w' : World} {A5 : Option Addr} {c5 : Nat} {h : S41} {g6 : Nat}
theorem BoxIn.then (i : BoxIn w0 A5 c5 h g6 w) (k : Below w.heap.size w w') : BoxIn w0 A5 c5 h g6 w' := ⟨below_step i.below k, blk_below i.b6 k⟩
theorem BoxIn.cells (i : BoxIn w0 A5 c5 h g6 w) :
    w.cell? ⟨g6, 0, none⟩ = some (.int .i64 h.f0) ∧ w.cell? ⟨g6, 1, none⟩ = some (.int .i64 h.f1) ∧ w.cell? ⟨g6, 2, none⟩ = some (.int .i64 h.f2) ∧
      w.cell? ⟨g6, 3, none⟩ = some (.int .i64 h.f3) ∧ w.cell? ⟨g6, 4, none⟩ = some (.string h.f4) ∧ w.cell? ⟨g6, 5, none⟩ = some (.slice A5 h.f5.length c5) :=
  ⟨(blk_cell i.b6 0).trans rfl, (blk_cell i.b6 1).trans rfl, (blk_cell i.b6 2).trans rfl, (blk_cell i.b6 3).trans rfl, (blk_cell i.b6 4).trans rfl, (blk_cell i.b6 5).trans rfl⟩
theorem BoxIn.new (w : World) (A5 : Option Addr) (c5 : Nat) (h : S41) : BoxIn w A5 c5 h w.heap.size (w.alloc (Obj.cells #[.int .i64 h.f0, .int .i64 h.f1, .int .i64 h.f2, .int .i64 h.f3, .string h.f4, .slice A5 h.f5.length c5] 41)) := ⟨below_alloc (Below.refl _ _) _, blk_new _ _⟩
end
def refLeftF (k : Nat) (h : S41) (f : Int) : Option (List S72 × Int) :=
  (selvageref17_contexts.f k h.f0 h.f1 h.f2 h.f3 h.f4 h.f5).bind fun x =>
    if 0 ≤ minF x.1 f ∧ minF x.1 f ≤ wrap64 ((h.f5.length : Int) - minF x.2 f) ∧ wrap64 ((h.f5.length : Int) - minF x.2 f) ≤ h.f5.length then
      some (cutL h.f5 (minF x.1 f) (wrap64 ((h.f5.length : Int) - minF x.2 f)), minF x.1 f) else none
theorem refLeftF.mono (h : S41) (f : Int) (k : Nat) : LeO (refLeftF k h f) (refLeftF (k + 1) h f) := by
  unfold refLeftF
  exact LeO.bind (selvageref17_contexts.mono _ _ _ _ _ _ _) fun _ => LeO.refl _
set_option maxHeartbeats 8000000 in
set_option maxRecDepth 100000 in
theorem refLeft.calls (k : Nat) (h : S41) (A5 : Option Addr) (c5 : Nat) (f : Int) (r1 : List S72) (r2 : Int) (w : World) (hr : Kd.C k72 w A5 h.f5.length h.f5) (hc : h.f5.length ≤ c5) (hf : refLeftF k h f = some (r1, r2)) :
    Calls Try.prog 58 #[agH A5 c5 h, .int .i64 f] w fun e w' => ∃ A' c', e = .returned (.tuple #[.slice A' r1.length c', .int .i64 r2]) ∧ Kd.C k72 w' A' r1.length r1 ∧ r1.length ≤ c' ∧ Below w.heap.size w w' := by
  have hu41 := Try.underlying41
  unfold refLeftF at hf
  obtain ⟨⟨a, b⟩, hx, hf⟩ := Option.bind_eq_some_iff.mp hf
  simp only [] at hf
  split at hf
  case isFalse => cases hf
  rename_i hh
  simp only [Option.some.injEq, Prod.mk.injEq] at hf
  obtain ⟨rfl, rfl⟩ := hf
  have hmin1 : ∀ k k' : IntKind, Builtin.min2 (.int k a) (.int k' f) = pure (.int k (minF a f)) := fun k k' => min2_int k k' a f
  have hmin2 : ∀ k k' : IntKind, Builtin.min2 (.int k b) (.int k' f) = pure (.int k (minF b f)) := fun k k' => min2_int k k' b f
  obtain ⟨i0, hi0, _, hsz, _⟩ := info_parts info72
  obtain ⟨A', hcut, hrc, hcc⟩ := cut_rows k72 39 72 Try.underlying39 hi0 hsz A5 c5 h.f5 (minF a f) (wrap64 ((h.f5.length : Int) - minF b f)) hh.1 hh.2.1 hh.2.2 hc
  have HR := Aside0.mk hr
  have HC := Aside0.mk hc
  have HX := Aside0.mk hx
  have HCC := Aside0.mk hcc
  have HRC := Aside0.mk hrc
  clear hr hc hx hcc hrc hi0 hsz hh
  go_enter Try.func58, Try.ntmps58
  go_upto_region 1 with (fail)
  have HI := Aside0.mk (BoxIn.new w A5 c5 h)
  generalize w.alloc (Obj.cells #[.int .i64 h.f0, .int .i64 h.f1, .int .i64 h.f2, .int .i64 h.f3, .string h.f4, .slice A5 h.f5.length c5] 41) = W at HI ⊢
  obtain ⟨x0, x1, x2, x3, x4, x5⟩ := HI.out.cells
  go_wp2_with (go_at_call 73; (with_reducible refine (selvageref17_contexts.calls k h.f0 h.f1 h.f2 h.f3 h.f4 A5 c5 h.f5 a b _ ?s1 HC.out HX.out).mono ?_); (case s1 => exact Kd.C_below HR.out HI.out.below); rintro e' w' ⟨rfl, hb⟩; have HI2 := Aside0.mk (HI.out.then hb); clear hb HI x0 x1 x2 x3 x4 x5; have HI := HI2; clear HI2; obtain ⟨x0, x1, x2, x3, x4, x5⟩ := HI.out.cells)
  go_ret2
  exact ⟨_, _, rfl, HRC.out _ (Kd.C_below HR.out HI.out.below), HCC.out, HI.out.below⟩
def refP (k : Nat) (old l : List ByteArray) (kk want : Int) : Nat → Int → Int → Bool → Option (Int × Bool)
  | 0, _, _, _ => none
  | g + 1, p, best, found =>
    if wrap64 (p + (l.length : Int)) ≤ old.length then
      (selvageref17_at.f k old p l).bind fun t =>
        if t = true then
          (if found = true then (selvageref17_far.f (wrap64 (p - kk)) want).bind fun x => (selvageref17_far.f best want).bind fun y =>
            if x < y then refP k old l kk want g (wrap64 (p + 1)) (wrap64 (p - kk)) true else refP k old l kk want g (wrap64 (p + 1)) best true
          else refP k old l kk want g (wrap64 (p + 1)) (wrap64 (p - kk)) true)
        else refP k old l kk want g (wrap64 (p + 1)) best found
    else some (best, found)
theorem refP.mono (old l : List ByteArray) (kk want : Int) (k : Nat) : ∀ (g : Nat) (p best : Int) (found : Bool), LeO (refP k old l kk want g p best found) (refP (k + 1) old l kk want (g + 1) p best found)
  | 0, _, _, _ => LeO.none _
  | g + 1, p, best, found => by
    have ih := refP.mono old l kk want k g
    unfold refP
    exact LeO.ite (LeO.bind (selvageref17_at.mono _ _ _ _) fun t => LeO.ite (LeO.ite (LeO.bind (LeO.refl _) fun _ => LeO.bind (LeO.refl _) fun _ => LeO.ite (ih _ _ _) (ih _ _ _)) (ih _ _ _)) (ih _ _ _)) (LeO.refl _)
def atM3 (f : Int) : Int := if 3 < f then 3 else f
def atL0 (f : Int) : Int := if f < 0 then 0 else f
def refFindL (k : Nat) (old : List ByteArray) (h : S41) (frm want fuzz : Int) : Nat → Int → Option (Int × Int × Bool)
  | 0, _ => none
  | g + 1, f =>
    if f ≤ atM3 fuzz then
      (refLeftF k h f).bind fun x => (selvageref17_side.f k x.1 3).bind fun l =>
        (refP k old l x.2 want k (minF frm (wrap64 ((old.length : Int) + 1))) 0 false).bind fun z =>
          if z.2 = true then some (z.1, f, true) else refFindL k old h frm want fuzz g (wrap64 (f + 1))
    else some (0, 0, false)
theorem refFindL.mono (old : List ByteArray) (h : S41) (frm want fuzz : Int) (k : Nat) : ∀ (g : Nat) (f : Int), LeO (refFindL k old h frm want fuzz g f) (refFindL (k + 1) old h frm want fuzz (g + 1) f)
  | 0, _ => LeO.none _
  | g + 1, f => by
    have ih := refFindL.mono old h frm want fuzz k g
    unfold refFindL
    exact LeO.ite (LeO.bind (refLeftF.mono _ _ _) fun x => LeO.bind (selvageref17_side.mono _ _ _) fun l => LeO.bind (refP.mono _ _ _ _ _ _ _ _ _) fun z => LeO.ite (LeO.refl _) (ih _)) (LeO.refl _)
def refFind.g (k : Nat) (old : List ByteArray) (h : S41) (frm off fuzz : Int) : Option (Int × Int × Bool) :=
  (selvageref10_Valid.f k h.f0 h.f1 h.f2 h.f3 h.f4 h.f5).bind fun e => if e = 0 then
    (selvageref17_Stated.f h.f0 h.f1 h.f2 h.f3 h.f4 h.f5).bind fun s => (selvageref17_add.f k s off).bind fun want => refFindL k old h (atL0 frm) want fuzz k 0
  else some (0, 0, false)
theorem refFind.gmono (old : List ByteArray) (h : S41) (frm off fuzz : Int) (k : Nat) : LeO (refFind.g k old h frm off fuzz) (refFind.g (k + 1) old h frm off fuzz) := by
  unfold refFind.g
  exact LeO.bind (selvageref10_Valid.mono _ _ _ _ _ _ _) fun _ => LeO.ite (LeO.bind (LeO.refl _) fun _ => LeO.bind (selvageref17_add.mono _ _ _) fun _ => refFindL.mono _ _ _ _ _ _ _ _) (LeO.refl _)
set_option maxHeartbeats 16000000 in
set_option maxRecDepth 100000 in
theorem refFind.calls (k : Nat) (Ao : Option Addr) (co : Nat) (old : List ByteArray) (h : S41) (A5 : Option Addr) (c5 : Nat) (frm off fuzz : Int) (r1 r2 : Int) (r3 : Bool) (w : World)
    (hro : Kd.C Kd.string w Ao old.length old) (hco : old.length ≤ co) (hr : Kd.C k72 w A5 h.f5.length h.f5) (hc : h.f5.length ≤ c5) (hf : refFind.g k old h frm off fuzz = some (r1, r2, r3)) :
    Calls Try.prog 57 #[.slice Ao old.length co, agH A5 c5 h, .int .i64 frm, .int .i64 off, .int .i64 fuzz] w fun e w' => e = .returned (.tuple #[.int .i64 r1, .int .i64 r2, .bool r3]) ∧ Below w.heap.size w w' := by
  have hu41 := Try.underlying41
  unfold refFind.g at hf
  obtain ⟨e, he, hf⟩ := Option.bind_eq_some_iff.mp hf
  have HRO := Aside0.mk hro
  have HCO := Aside0.mk hco
  have HR := Aside0.mk hr
  have HC := Aside0.mk hc
  have HE := Aside0.mk he
  clear hro hco hr hc he
  have hmax : ∀ k k' : IntKind, Builtin.max2 (.int k frm) (.int k' 0) = pure (.int k (atL0 frm)) := fun k k' => max2_int k k' frm 0
  have hmin : ∀ k k' : IntKind, Builtin.min2 (.int k fuzz) (.int k' 3) = pure (.int k (atM3 fuzz)) := fun k k' => min2_int k k' fuzz 3
  have hmin2 : ∀ k k' : IntKind, Builtin.min2 (.int k (atL0 frm)) (.int k' (wrap64 ((old.length : Int) + 1))) = pure (.int k (minF (atL0 frm) (wrap64 ((old.length : Int) + 1)))) := fun k k' => min2_int k k' _ _
  go_enter Try.func57, Try.ntmps57
  go_upto_region 1 with (fail)
  have HI := Aside0.mk (BoxIn.new w A5 c5 h)
  generalize w.alloc (Obj.cells #[.int .i64 h.f0, .int .i64 h.f1, .int .i64 h.f2, .int .i64 h.f3, .string h.f4, .slice A5 h.f5.length c5] 41) = W at HI ⊢
  obtain ⟨x0, x1, x2, x3, x4, x5⟩ := HI.out.cells
  by_cases he0 : e = 0
  case neg =>
    rw [if_neg he0] at hf
    have b0 : (e != 0) = true := bne_iff_ne.mpr he0
    clear he0
    simp only [Option.some.injEq, Prod.mk.injEq] at hf
    obtain ⟨rfl, rfl, rfl⟩ := hf
    go_wp2_with (go_at_call 56; (with_reducible refine (selvageref10_Valid.calls k h.f0 h.f1 h.f2 h.f3 h.f4 A5 c5 h.f5 e _ ?s1 HC.out HE.out).mono ?_); (case s1 => exact Kd.C_below HR.out HI.out.below); rintro e' w' ⟨rfl, hb⟩; have HI2 := Aside0.mk (HI.out.then hb); clear hb HI x0 x1 x2 x3 x4 x5; have HI := HI2; clear HI2; obtain ⟨x0, x1, x2, x3, x4, x5⟩ := HI.out.cells)
    go_ret3
    exact ⟨rfl, HI.out.below⟩
  case pos =>
    rw [if_pos he0] at hf
    have b0 : (e != 0) = false := bne_eq_false_iff_eq.mpr he0
    clear he0
    obtain ⟨s, hs, hf⟩ := Option.bind_eq_some_iff.mp hf
    obtain ⟨want, hn, hf⟩ := Option.bind_eq_some_iff.mp hf
    have HS := Aside0.mk hs
    have HN := Aside0.mk hn
    have HF := Aside0.mk hf
    clear hs hn hf
    go_upto_region 5 with (first | (go_at_call 56; (with_reducible refine (selvageref10_Valid.calls k h.f0 h.f1 h.f2 h.f3 h.f4 A5 c5 h.f5 e _ ?s1 HC.out HE.out).mono ?_); (case s1 => exact Kd.C_below HR.out HI.out.below); rintro e' w' ⟨rfl, hb⟩; have HI2 := Aside0.mk (HI.out.then hb); clear hb HI x0 x1 x2 x3 x4 x5; have HI := HI2; clear HI2; obtain ⟨x0, x1, x2, x3, x4, x5⟩ := HI.out.cells) | (go_at_call 60; (with_reducible refine (selvageref17_Stated.calls h.f0 h.f1 h.f2 h.f3 h.f4 A5 c5 h.f5 s _ ?s1 HC.out HS.out).mono ?_); (case s1 => exact Kd.C_below HR.out HI.out.below); rintro e' w' ⟨rfl, hb⟩; have HI2 := Aside0.mk (HI.out.then hb); clear hb HI x0 x1 x2 x3 x4 x5; have HI := HI2; clear HI2; obtain ⟨x0, x1, x2, x3, x4, x5⟩ := HI.out.cells) | (go_at_call 70; (with_reducible refine (selvageref17_add.calls k s off want _ HN.out).mono ?_); rintro e' w' ⟨rfl, hd⟩; have hb := hd.below; clear hd; have HI2 := Aside0.mk (HI.out.then hb); clear hb HI x0 x1 x2 x3 x4 x5; have HI := HI2; clear HI2; obtain ⟨x0, x1, x2, x3, x4, x5⟩ := HI.out.cells))
    clear b0
    go_wp2
    go_loopg [14] k (fun kq v14 w' => ∃ (f : Int), v14 = .int .i64 f ∧ Aside0 (refFindL k old h (atL0 frm) want fuzz kq f = some (r1, r2, r3)) ∧ Aside0 (BoxIn w A5 c5 h w.heap.size w'))
    case atStart => exact ⟨0, rfl, HF, HI⟩
    case round =>
      clear HI HF x0 x1 x2 x3 x4 x5
      obtain ⟨f, rfl, H, HI⟩ := hrel
      have H1 := H.out
      clear H
      cases gk with
      | zero => simp [refFindL] at H1
      | succ gk2 =>
      have HK : Aside0 (gk2 < gk2 + 1) := ⟨by omega⟩
      simp only [refFindL] at H1
      obtain ⟨x0, x1, x2, x3, x4, x5⟩ := HI.out.cells
      by_cases t1 : f ≤ atM3 fuzz
      · rw [if_pos t1] at H1
        have b1 : decide (f ≤ atM3 fuzz) = true := decide_eq_true t1
        clear t1
        obtain ⟨⟨rows, kk⟩, hx, H1⟩ := Option.bind_eq_some_iff.mp H1
        obtain ⟨l, hy, H1⟩ := Option.bind_eq_some_iff.mp H1
        obtain ⟨⟨z1, z2⟩, hz, H1⟩ := Option.bind_eq_some_iff.mp H1
        have HX0 := Aside0.mk hx
        have HY0 := Aside0.mk hy
        have HZ0 : Aside0 (refP k old l kk want k (minF (atL0 frm) (wrap64 ((old.length : Int) + 1))) 0 false = some (z1, z2)) := ⟨hz⟩
        have HQ := Aside0.mk H1
        clear hx hy hz H1
        go_upto_region 10 with (first | (go_at_call 58; (with_reducible refine (refLeft.calls k h A5 c5 f rows kk _ ?s1 HC.out HX0.out).mono ?_); (case s1 => exact Kd.C_below HR.out HI.out.below); rintro e' w' ⟨A', c', rfl, hrr, hrc, hb⟩; have HRR := Aside0.mk hrr; have HRC := Aside0.mk hrc; clear hrr hrc; have HI2 := Aside0.mk (HI.out.then hb); clear hb HI x0 x1 x2 x3 x4 x5; have HI := HI2; clear HI2; obtain ⟨x0, x1, x2, x3, x4, x5⟩ := HI.out.cells) | (go_at_call 59; (with_reducible refine (selvageref17_side.calls k A' c' rows 3 l _ HRR.out HRC.out HY0.out).mono ?_); rintro e' w' ⟨v0, rfl, ho0, hb⟩; obtain ⟨A9, c9, rfl⟩ := own_slice (Kd.own_of_R ho0); have HO9 := Aside0.mk (Kd.R_reads' ho0).2; clear ho0; have HI2 := Aside0.mk (HI.out.then hb); clear hb HI x0 x1 x2 x3 x4 x5; have HI := HI2; clear HI2; obtain ⟨x0, x1, x2, x3, x4, x5⟩ := HI.out.cells))
        clear HRR HRC x0 x1 x2 x3 x4 x5
        go_wp2
        obtain ⟨wo, rfl⟩ : ∃ wo : World, wo = wr := ⟨_, rfl⟩
        go_loopg [18, 19, 20] k (fun kq v18 v19 v20 w' => ∃ (p best : Int) (found : Bool), v18 = .int .i64 best ∧ v19 = .bool found ∧ v20 = .int .i64 p ∧ Aside0 (refP k old l kk want kq p best found = some (z1, z2)) ∧ Aside0 (BoxIn w A5 c5 h w.heap.size w') ∧ Aside0 (l.length ≤ c9 ∧ Kd.C Kd.string w' A9 l.length l))
        case atStart => exact ⟨_, 0, false, rfl, rfl, rfl, HZ0, HI, HO9⟩
        case round =>
          clear HI HO9 HZ0
          obtain ⟨p, best, found, rfl, rfl, rfl, H, HI, HO9⟩ := hrel
          have H1 := H.out
          clear H
          cases gk with
          | zero => simp [refP] at H1
          | succ gk3 =>
          have HK3 : Aside0 (gk3 < gk3 + 1) := ⟨by omega⟩
          simp only [refP] at H1
          by_cases t2 : wrap64 (p + (l.length : Int)) ≤ old.length
          · rw [if_pos t2] at H1
            have b2 : decide (wrap64 (p + (l.length : Int)) ≤ (old.length : Int)) = true := decide_eq_true t2
            clear t2
            obtain ⟨t, ht, H1⟩ := Option.bind_eq_some_iff.mp H1
            have HT := Aside0.mk ht
            clear ht
            cases t with
            | false =>
              rw [if_neg (by simp)] at H1
              have H2 := Aside0.mk H1
              clear H1
              go_wp2_with (go_at_call 71; (with_reducible refine (selvageref17_at.calls k Ao co old p A9 c9 l false _ ?s1 HCO.out HO9.out.2 HO9.out.1 HT.out).mono ?_); (case s1 => exact Kd.C_below HRO.out HI.out.below); rintro e' w' ⟨rfl, hd⟩; have hb := hd.below; have HI2 := Aside0.mk (HI.out.then hb); have HO2 := Aside0.mk (And.intro HO9.out.1 (Kd.C_below HO9.out.2 hb)); clear hd hb HI HO9; have HI := HI2; have HO9 := HO2; clear HI2 HO2)
              go_roundg gk3
              case measure => have := HK3.out; omega
              case rel => exact ⟨_, _, _, rfl, rfl, rfl, H2, HI, HO9⟩
            | true =>
              rw [if_pos rfl] at H1
              cases found with
              | false =>
                rw [if_neg (by simp)] at H1
                have H2 := Aside0.mk H1
                clear H1
                go_wp2_with (go_at_call 71; (with_reducible refine (selvageref17_at.calls k Ao co old p A9 c9 l true _ ?s1 HCO.out HO9.out.2 HO9.out.1 HT.out).mono ?_); (case s1 => exact Kd.C_below HRO.out HI.out.below); rintro e' w' ⟨rfl, hd⟩; have hb := hd.below; have HI2 := Aside0.mk (HI.out.then hb); have HO2 := Aside0.mk (And.intro HO9.out.1 (Kd.C_below HO9.out.2 hb)); clear hd hb HI HO9; have HI := HI2; have HO9 := HO2; clear HI2 HO2)
                go_roundg gk3
                case measure => have := HK3.out; omega
                case rel => exact ⟨_, _, _, rfl, rfl, rfl, H2, HI, HO9⟩
              | true =>
                rw [if_pos rfl] at H1
                obtain ⟨x, hx, H1⟩ := Option.bind_eq_some_iff.mp H1
                obtain ⟨y, hy, H1⟩ := Option.bind_eq_some_iff.mp H1
                have HX := Aside0.mk hx
                have HY := Aside0.mk hy
                clear hx hy
                by_cases t3 : x < y
                · rw [if_pos t3] at H1
                  have b3 : decide (x < y) = true := decide_eq_true t3
                  have H2 := Aside0.mk H1
                  clear t3 H1
                  go_wp2_with (first | (go_at_call 71; (with_reducible refine (selvageref17_at.calls k Ao co old p A9 c9 l true _ ?s1 HCO.out HO9.out.2 HO9.out.1 HT.out).mono ?_); (case s1 => exact Kd.C_below HRO.out HI.out.below); rintro e' w' ⟨rfl, hd⟩; have hb := hd.below; have HI2 := Aside0.mk (HI.out.then hb); have HO2 := Aside0.mk (And.intro HO9.out.1 (Kd.C_below HO9.out.2 hb)); clear hd hb HI HO9; have HI := HI2; have HO9 := HO2; clear HI2 HO2) | (go_at_call 72; (with_reducible refine (selvageref17_far.calls (wrap64 (p - kk)) want x _ HX.out).mono ?_); rintro e' w' ⟨rfl, hd⟩; have hb := hd.below; have HI2 := Aside0.mk (HI.out.then hb); have HO2 := Aside0.mk (And.intro HO9.out.1 (Kd.C_below HO9.out.2 hb)); clear hd hb HI HO9; have HI := HI2; have HO9 := HO2; clear HI2 HO2) | (go_at_call 72; (with_reducible refine (selvageref17_far.calls best want y _ HY.out).mono ?_); rintro e' w' ⟨rfl, hd⟩; have hb := hd.below; have HI2 := Aside0.mk (HI.out.then hb); have HO2 := Aside0.mk (And.intro HO9.out.1 (Kd.C_below HO9.out.2 hb)); clear hd hb HI HO9; have HI := HI2; have HO9 := HO2; clear HI2 HO2))
                  go_roundg gk3
                  case measure => have := HK3.out; omega
                  case rel => exact ⟨_, _, _, rfl, rfl, rfl, H2, HI, HO9⟩
                · rw [if_neg t3] at H1
                  have b3 : decide (x < y) = false := decide_eq_false t3
                  have H2 := Aside0.mk H1
                  clear t3 H1
                  go_wp2_with (first | (go_at_call 71; (with_reducible refine (selvageref17_at.calls k Ao co old p A9 c9 l true _ ?s1 HCO.out HO9.out.2 HO9.out.1 HT.out).mono ?_); (case s1 => exact Kd.C_below HRO.out HI.out.below); rintro e' w' ⟨rfl, hd⟩; have hb := hd.below; have HI2 := Aside0.mk (HI.out.then hb); have HO2 := Aside0.mk (And.intro HO9.out.1 (Kd.C_below HO9.out.2 hb)); clear hd hb HI HO9; have HI := HI2; have HO9 := HO2; clear HI2 HO2) | (go_at_call 72; (with_reducible refine (selvageref17_far.calls (wrap64 (p - kk)) want x _ HX.out).mono ?_); rintro e' w' ⟨rfl, hd⟩; have hb := hd.below; have HI2 := Aside0.mk (HI.out.then hb); have HO2 := Aside0.mk (And.intro HO9.out.1 (Kd.C_below HO9.out.2 hb)); clear hd hb HI HO9; have HI := HI2; have HO9 := HO2; clear HI2 HO2) | (go_at_call 72; (with_reducible refine (selvageref17_far.calls best want y _ HY.out).mono ?_); rintro e' w' ⟨rfl, hd⟩; have hb := hd.below; have HI2 := Aside0.mk (HI.out.then hb); have HO2 := Aside0.mk (And.intro HO9.out.1 (Kd.C_below HO9.out.2 hb)); clear hd hb HI HO9; have HI := HI2; have HO9 := HO2; clear HI2 HO2))
                  go_roundg gk3
                  case measure => have := HK3.out; omega
                  case rel => exact ⟨_, _, _, rfl, rfl, rfl, H2, HI, HO9⟩
          · rw [if_neg t2] at H1
            have b2 : decide (wrap64 (p + (l.length : Int)) ≤ (old.length : Int)) = false := decide_eq_false t2
            clear t2
            simp only [Option.some.injEq, Prod.mk.injEq] at H1
            obtain ⟨rfl, rfl⟩ := H1
            have H1 := HQ.out
            cases found with
            | true =>
              rw [if_pos rfl] at H1
              simp only [Option.some.injEq, Prod.mk.injEq] at H1
              obtain ⟨rfl, rfl, rfl⟩ := H1
              go_wp2
              go_ret3
              exact ⟨rfl, HI.out.below⟩
            | false =>
              rw [if_neg (by simp)] at H1
              have H2 := Aside0.mk H1
              clear H1
              go_wp2
              go_roundg gk2
              case measure => have := HK.out; omega
              case rel => exact ⟨_, rfl, H2, HI⟩
      · rw [if_neg t1] at H1
        have b1 : decide (f ≤ atM3 fuzz) = false := decide_eq_false t1
        clear t1
        simp only [Option.some.injEq, Prod.mk.injEq] at H1
        obtain ⟨rfl, rfl, rfl⟩ := H1
        go_wp2
        go_ret3
        exact ⟨rfl, HI.out.below⟩
end Go.Proofs.Ytkoagpnoaibdjaa.Ext
namespace Go.Proofs.Ytkoagpnoaibdjaa.Ext
open Go.RowKit Go.Proofs.Ytkoagpnoaibdjaa.Pp Go.Proofs.YtkoagpnoaibdjaaW.PrintWords Go.Proofs.YtkoagpnoaibdjaaW.PrintLast Go.Proofs.YtkoagpnoaibdjaaW.PrintMore
set_option linter.unusedVariables false
set_option linter.unusedSimpArgs false
def refBadL (k : Nat) : List S41 → Option Bool
  | [] => some false
  | h :: t => (selvageref10_Valid.f k h.f0 h.f1 h.f2 h.f3 h.f4 h.f5).bind fun e => if e = 0 then refBadL k t else some true
theorem refBadL.mono (k : Nat) : ∀ l, LeO (refBadL k l) (refBadL (k + 1) l)
  | [] => LeO.refl _
  | h :: t => LeO.bind (selvageref10_Valid.mono _ _ _ _ _ _ _) fun _ => LeO.ite (refBadL.mono k t) (LeO.refl _)
def refApplyL (k : Nat) (old : List ByteArray) (fuzz : Int) : List S41 → Nat → Int → Int → Int → List ByteArray → List S79 → List Int → Option (List ByteArray × List S79 × List Int × Int)
  | [], _, frm, _, _, out, hits, rej => some (out, hits, rej, frm)
  | h :: t, i, frm, off, more, out, hits, rej =>
    (refFind.g k old h frm off fuzz).bind fun z =>
      if z.2.2 = true then
        (refLeftF k h z.2.1).bind fun x => (selvageref17_side.f k x.1 3).bind fun y => (selvageref17_side.f k x.1 2).bind fun y2 => (selvageref17_Stated.f h.f0 h.f1 h.f2 h.f3 h.f4 h.f5).bind fun s =>
          if (0 ≤ frm ∧ frm ≤ wrap64 (z.1 + x.2) ∧ wrap64 (z.1 + x.2) ≤ old.length) ∧ ((out ++ cutL old frm (wrap64 (z.1 + x.2))) ++ y2).length ≤ 8796093022208 ∧ hits.length < 4398046511104 then
            refApplyL k old fuzz t (i + 1) (wrap64 (wrap64 (z.1 + x.2) + (y.length : Int))) (wrap64 (z.1 - s)) (wrap64 (wrap64 (more + (y2.length : Int)) - (y.length : Int))) ((out ++ cutL old frm (wrap64 (z.1 + x.2))) ++ y2)
              (hits ++ [⟨(i : Int), wrap64 (wrap64 (z.1 + 1) + more), wrap64 (z.1 - s), z.2.1⟩]) rej
          else none
      else if rej.length < 17592186044416 then refApplyL k old fuzz t (i + 1) frm off more out hits (rej ++ [(i : Int)]) else none
theorem refApplyL.mono (old : List ByteArray) (fuzz : Int) (k : Nat) : ∀ (l : List S41) (i : Nat) (frm off more : Int) (out : List ByteArray) (hits : List S79) (rej : List Int), LeO (refApplyL k old fuzz l i frm off more out hits rej) (refApplyL (k + 1) old fuzz l i frm off more out hits rej)
  | [], _, _, _, _, _, _, _ => LeO.refl _
  | h :: t, i, frm, off, more, out, hits, rej => by
    unfold refApplyL
    exact LeO.bind (refFind.gmono _ _ _ _ _ _) fun z => LeO.ite (LeO.bind (refLeftF.mono _ _ _) fun x => LeO.bind (selvageref17_side.mono _ _ _) fun y => LeO.bind (selvageref17_side.mono _ _ _) fun y2 => LeO.bind (LeO.refl _) fun s => LeO.ite (refApplyL.mono _ _ _ _ _ _ _ _ _ _ _) (LeO.refl _)) (LeO.ite (refApplyL.mono _ _ _ _ _ _ _ _ _ _ _) (LeO.refl _))
def selvageref17_Apply.f (k : Nat) (l0 : List ByteArray) (l1 : List S41) (a2 : Int) : Option (List ByteArray × List S79 × List Int × Int) :=
  if a2 < 0 then some ([], [], [], 1) else if 3 < a2 then some ([], [], [], 1) else
  (selvageref01_Valid.f k l0).bind fun v => if v = true then
    if l1.length ≤ 9223372036854775807 then
      (refBadL k l1).bind fun b => if b = true then some ([], [], [], 100) else
        (refApplyL k l0 a2 l1 0 0 0 0 [] [] []).bind fun z =>
          if (0 ≤ z.2.2.2 ∧ z.2.2.2 ≤ l0.length) ∧ (z.1 ++ cutL l0 z.2.2.2 l0.length).length ≤ 8796093022208 then
            (selvageref01_Valid.f k (z.1 ++ cutL l0 z.2.2.2 l0.length)).bind fun v2 => if v2 = true then some (z.1 ++ cutL l0 z.2.2.2 l0.length, z.2.1, z.2.2.1, 0) else some ([], [], [], 130)
          else none
    else none
  else some ([], [], [], 130)
theorem selvageref17_Apply.mono : ∀ a0 a1 a2 k, LeO (selvageref17_Apply.f k a0 a1 a2) (selvageref17_Apply.f (k + 1) a0 a1 a2) := by
  intro a0 a1 a2 k
  unfold selvageref17_Apply.f
  exact LeO.ite (LeO.refl _) (LeO.ite (LeO.refl _) (LeO.bind (selvageref01_Valid.mono _ _) fun v => LeO.ite (LeO.ite (LeO.bind (refBadL.mono _ _) fun b => LeO.ite (LeO.refl _) (LeO.bind (refApplyL.mono _ _ _ _ _ _ _ _ _ _ _) fun z => LeO.ite (LeO.bind (selvageref01_Valid.mono _ _) fun v2 => LeO.refl _) (LeO.refl _))) (LeO.refl _)) (LeO.refl _)))
structure AppInR (w0 : World) (vo vh vr : Value) (out : List ByteArray) (hits : List S79) (rej : List Int) (w : World) : Prop where
  below : Below w0.heap.size w0 w
  o : Kd.R Kd.string 9 w w0.heap.size (fun _ => True) vo out
  h : Kd.R k79 79 w w0.heap.size (fun _ => True) vh hits
  r : Kd.R (Kd.int .i64) 3 w w0.heap.size (fun _ => True) vr rej
structure RoundInR (w0 : World) (vo vh vr : Value) (out : List ByteArray) (hits : List S79) (rej : List Int) (gb : Nat) (A5 : Option Addr) (c5 : Nat) (g : S41) (w : World) : Prop where
  app : AppInR w0 vo vh vr out hits rej w
  b : w.heap[gb]? = some (.cells #[.int .i64 g.f0, .int .i64 g.f1, .int .i64 g.f2, .int .i64 g.f3, .string g.f4, .slice A5 g.f5.length c5] 41 (0, 0))
section
variable {w0 w w1 : World} {vo vh vr v : Value} {out out1 : List ByteArray} {hits hits1 : List S79} {rej rej1 : List Int} {gb : Nat} {A5 : Option Addr} {c5 : Nat} {g : S41}
theorem AppInR.then (i : AppInR w0 vo vh vr out hits rej w) (k : Below w.heap.size w w1) : AppInR w0 vo vh vr out hits rej w1 := ⟨below_step i.below k, Kd.R_below i.o k, Kd.R_below i.h k, Kd.R_below i.r k⟩
theorem AppInR.set (i : AppInR w0 vo vh vr out hits rej w) {cs : Array Value} (ha : w.heap[gb]? = some (.cells cs 41 (0, 0))) (n : w0.heap.size ≤ gb) (j : Nat) (v : Value) : AppInR w0 vo vh vr out hits rej (w.setCell ⟨gb, j, none⟩ v) :=
  ⟨below_set i.below n, Kd.R_set i.o ha (by decide) j v, Kd.R_set i.h ha (by decide) j v, Kd.R_set i.r ha (by decide) j v⟩
theorem AppInR.outs (i : AppInR w0 vo vh vr out hits rej w) (hb : Below w0.heap.size w0 w1) (hg : w.grownBy w1 vo.ownBlock) (ho : Kd.R Kd.string 9 w1 w0.heap.size (fun _ => True) v out1) : AppInR w0 v vh vr out1 hits rej w1 :=
  ⟨hb, ho, Kd.R_over i.h i.o (by decide) hg, Kd.R_over i.r i.o (by decide) hg⟩
theorem AppInR.hitted (i : AppInR w0 vo vh vr out hits rej w) (hb : Below w0.heap.size w0 w1) (hg : w.grownBy w1 vh.ownBlock) (ho : Kd.R k79 79 w1 w0.heap.size (fun _ => True) v hits1) : AppInR w0 vo v vr out hits1 rej w1 :=
  ⟨hb, Kd.R_over i.o i.h (by decide) hg, ho, Kd.R_over i.r i.h (by decide) hg⟩
theorem AppInR.rejected (i : AppInR w0 vo vh vr out hits rej w) (hb : Below w0.heap.size w0 w1) (hg : w.grownBy w1 vr.ownBlock) (ho : Kd.R (Kd.int .i64) 3 w1 w0.heap.size (fun _ => True) v rej1) : AppInR w0 vo vh v out hits rej1 w1 :=
  ⟨hb, Kd.R_over i.o i.r (by decide) hg, Kd.R_over i.h i.r (by decide) hg, ho⟩
theorem RoundInR.then (i : RoundInR w0 vo vh vr out hits rej gb A5 c5 g w) (k : Below w.heap.size w w1) : RoundInR w0 vo vh vr out hits rej gb A5 c5 g w1 := ⟨i.app.then k, blk_below i.b k⟩
theorem RoundInR.outs (i : RoundInR w0 vo vh vr out hits rej gb A5 c5 g w) (hb : Below w0.heap.size w0 w1) (hg : w.grownBy w1 vo.ownBlock) (ho : Kd.R Kd.string 9 w1 w0.heap.size (fun _ => True) v out1) : RoundInR w0 v vh vr out1 hits rej gb A5 c5 g w1 :=
  ⟨i.app.outs hb hg ho, blk_grown i.b hg (Kd.R_ne i.app.o i.b (by decide))⟩
theorem RoundInR.hitted (i : RoundInR w0 vo vh vr out hits rej gb A5 c5 g w) (hb : Below w0.heap.size w0 w1) (hg : w.grownBy w1 vh.ownBlock) (ho : Kd.R k79 79 w1 w0.heap.size (fun _ => True) v hits1) : RoundInR w0 vo v vr out hits1 rej gb A5 c5 g w1 :=
  ⟨i.app.hitted hb hg ho, blk_grown i.b hg (Kd.R_ne i.app.h i.b (by decide))⟩
theorem RoundInR.rejected (i : RoundInR w0 vo vh vr out hits rej gb A5 c5 g w) (hb : Below w0.heap.size w0 w1) (hg : w.grownBy w1 vr.ownBlock) (ho : Kd.R (Kd.int .i64) 3 w1 w0.heap.size (fun _ => True) v rej1) : RoundInR w0 vo vh v out hits rej1 gb A5 c5 g w1 :=
  ⟨i.app.rejected hb hg ho, blk_grown i.b hg (Kd.R_ne i.app.r i.b (by decide))⟩
theorem RoundInR.cells (i : RoundInR w0 vo vh vr out hits rej gb A5 c5 g w) :
    w.cell? ⟨gb, 0, none⟩ = some (.int .i64 g.f0) ∧ w.cell? ⟨gb, 1, none⟩ = some (.int .i64 g.f1) ∧ w.cell? ⟨gb, 2, none⟩ = some (.int .i64 g.f2) ∧
      w.cell? ⟨gb, 3, none⟩ = some (.int .i64 g.f3) ∧ w.cell? ⟨gb, 4, none⟩ = some (.string g.f4) ∧ w.cell? ⟨gb, 5, none⟩ = some (.slice A5 g.f5.length c5) :=
  ⟨(blk_cell i.b 0).trans rfl, (blk_cell i.b 1).trans rfl, (blk_cell i.b 2).trans rfl, (blk_cell i.b 3).trans rfl, (blk_cell i.b 4).trans rfl, (blk_cell i.b 5).trans rfl⟩
end
theorem infoHitR : (Try.prog.info? 79).map (fun i => (i.zero, i.size, i.bytes)) = some (some (.agg #[.int .i64 0, .int .i64 0, .int .i64 0, .int .i64 0]), 4, 32) := by kernel_rfl
set_option maxHeartbeats 16000000 in
set_option maxRecDepth 100000 in
theorem selvageref17_Apply.calls (k : Nat) (A0 : Option Addr) (c0 : Nat) (old : List ByteArray) (A1 : Option Addr) (c1 : Nat) (l1 : List S41) (fuzz : Int) (r1 : List ByteArray) (r2 : List S79) (r3 : List Int) (r4 : Int) (w : World)
    (hr0 : Kd.C Kd.string w A0 old.length old) (hc0 : old.length ≤ c0) (hr1 : Kd.C k41 w A1 l1.length l1) (hc1 : l1.length ≤ c1) (h : selvageref17_Apply.f k old l1 fuzz = some (r1, r2, r3, r4)) :
    Calls Try.prog 34 #[.slice A0 old.length c0, .slice A1 l1.length c1, .int .i64 fuzz] w fun e w' => ∃ v0_ v1_ v2_ : Value, e = .returned (.tuple #[v0_, v1_, v2_, .int .i64 r4]) ∧
      Kd.R Kd.string 9 w' w.heap.size (fun _ => True) v0_ r1 ∧ Kd.R k79 79 w' w.heap.size (fun _ => True) v1_ r2 ∧ Kd.R (Kd.int .i64) 3 w' w.heap.size (fun _ => True) v2_ r3 ∧ Below w.heap.size w w' := by
  have hu41 := Try.underlying41
  unfold selvageref17_Apply.f at h
  have HR0 := Aside0.mk hr0
  have HC0 := Aside0.mk hc0
  have HR1 := Aside0.mk hr1
  have HC1 := Aside0.mk hc1
  clear hr0 hc0 hr1 hc1
  by_cases d1 : fuzz < 0
  · rw [if_pos d1] at h
    simp only [Option.some.injEq, Prod.mk.injEq] at h
    obtain ⟨rfl, rfl, rfl, rfl⟩ := h
    have d1b : decide (fuzz < 0) = true := decide_eq_true d1
    clear d1
    go_enter Try.func34, Try.ntmps34
    go_wp2
    (try simp only [Exit.inBlock, Exit.then]); refine bodyPost_ret (results_tmp4 rfl _ _ _) rfl ?_
    exact ⟨_, _, _, rfl, Kd.R_nil _ _ _ _ _, Kd.R_nil _ _ _ _ _, Kd.R_nil _ _ _ _ _, by repeat (first | exact Below.refl _ _ | apply below_alloc)⟩
  · rw [if_neg d1] at h
    have d1b : decide (fuzz < 0) = false := decide_eq_false d1
    by_cases d2 : 3 < fuzz
    · rw [if_pos d2] at h
      simp only [Option.some.injEq, Prod.mk.injEq] at h
      obtain ⟨rfl, rfl, rfl, rfl⟩ := h
      have d2b : decide (3 < fuzz) = true := decide_eq_true d2
      clear d1 d2
      go_enter Try.func34, Try.ntmps34
      go_wp2
      (try simp only [Exit.inBlock, Exit.then]); refine bodyPost_ret (results_tmp4 rfl _ _ _) rfl ?_
      exact ⟨_, _, _, rfl, Kd.R_nil _ _ _ _ _, Kd.R_nil _ _ _ _ _, Kd.R_nil _ _ _ _ _, by repeat (first | exact Below.refl _ _ | apply below_alloc)⟩
    · rw [if_neg d2] at h
      have d2b : decide (3 < fuzz) = false := decide_eq_false d2
      clear d1 d2
      obtain ⟨v, hv, h⟩ := Option.bind_eq_some_iff.mp h
      have HV := Aside0.mk hv
      have HB := Aside0.mk (Below.refl w.heap.size w)
      clear hv
      cases v with
      | false =>
        rw [if_neg (by simp)] at h
        simp only [Option.some.injEq, Prod.mk.injEq] at h
        obtain ⟨rfl, rfl, rfl, rfl⟩ := h
        go_enter Try.func34, Try.ntmps34
        go_wp2_with (go_at_call 16; (with_reducible refine (selvageref01_Valid.calls k A0 c0 old false _ ?s1 HC0.out HV.out).mono ?_); (case s1 => exact Kd.C_below HR0.out HB.out); rintro e' w' ⟨rfl, hd⟩; have HB2 := Aside0.mk (below_step HB.out hd.below); clear hd HB; have HB := HB2; clear HB2)
        (try simp only [Exit.inBlock, Exit.then]); refine bodyPost_ret (results_tmp4 rfl _ _ _) rfl ?_
        exact ⟨_, _, _, rfl, Kd.R_nil _ _ _ _ _, Kd.R_nil _ _ _ _ _, Kd.R_nil _ _ _ _ _, HB.out⟩
      | true =>
        rw [if_pos rfl] at h
        split at h
        case isFalse => cases h
        rename_i hlen
        have HLEN := Aside0.mk hlen
        obtain ⟨b, hbad, h⟩ := Option.bind_eq_some_iff.mp h
        have HBAD := Aside0.mk hbad
        have HG := Aside0.mk h
        clear hbad hlen h
        go_enter Try.func34, Try.ntmps34
        go_upto_region 5 with (go_at_call 16; (with_reducible refine (selvageref01_Valid.calls k A0 c0 old true _ ?s1 HC0.out HV.out).mono ?_); (case s1 => exact Kd.C_below HR0.out HB.out); rintro e' w' ⟨rfl, hd⟩; have HB2 := Aside0.mk (below_step HB.out hd.below); clear hd HB; have HB := HB2; clear HB2)
        go_wp2
        go_loopg [10] (l1.length + 1) (fun kq v10 w' => ∃ (i : Nat), v10 = .int .i64 (i : Int) ∧ Aside0 (i + kq = l1.length + 1 ∧ i ≤ l1.length) ∧ Aside0 (refBadL k (l1.drop i) = some b) ∧ Aside0 (Below w.heap.size w w'))
        case atStart => exact ⟨0, rfl, ⟨by omega⟩, HBAD, HB⟩
        case round =>
          clear HB HBAD
          obtain ⟨i, rfl, HK, H, HB⟩ := hrel
          by_cases hi : i < l1.length
          · have p1 : 0 ≤ (i : Int) := by omega
            have q1 : (i : Int) < (l1.length : Int) := by omega
            have H1 := H.out
            rw [dropS l1 z41 i hi] at H1
            simp only [refBadL] at H1
            have hrd : l1.getD i z41 = rd_T41 l1 (i : Int) := rfl
            rw [hrd] at H1
            obtain ⟨ad, A5, c5, e1, hx0, hx1, hx2, hx3, hx4, hx5, hc5, hr5⟩ := at_T41 HR1.out (i : Int) p1 q1
            replace hx0 := pw_cell_below HB.out hx0
            replace hx1 := pw_cell_below HB.out hx1
            replace hx2 := pw_cell_below HB.out hx2
            replace hx3 := pw_cell_below HB.out hx3
            replace hx4 := pw_cell_below HB.out hx4
            replace hx5 := pw_cell_below HB.out hx5
            cases e1
            simp only [Int.toNat_natCast] at hx0 hx1 hx2 hx3 hx4 hx5
            have z1_ : decide ((i : Int) < (l1.length : Int)) = true := decide_eq_true q1
            generalize rd_T41 l1 (i : Int) = g at H1 hx0 hx1 hx2 hx3 hx4 hx5 hc5 hr5
            clear hrd H
            obtain ⟨e, he, H1⟩ := Option.bind_eq_some_iff.mp H1
            have HE1 := Aside0.mk he
            have HC5 := Aside0.mk hc5
            have HR5 := Aside0.mk hr5
            have HW : Aside0 (wrap64 ((i : Int) + 1) = ((i + 1 : Nat) : Int)) := ⟨by rw [Pure.w64' (by omega) (by have := HLEN.out; omega)]; omega⟩
            clear he hc5 hr5
            by_cases he0 : e = 0
            · rw [if_pos he0] at H1
              have b0 : (e != 0) = false := bne_eq_false_iff_eq.mpr he0
              have H2 := Aside0.mk H1
              clear he0 H1
              go_wp2_with (go_at_call 56; (with_reducible refine (selvageref10_Valid.calls k g.f0 g.f1 g.f2 g.f3 g.f4 A5 c5 g.f5 e _ ?s1 HC5.out HE1.out).mono ?_); (case s1 => exact Kd.C_below HR5.out HB.out); rintro e' w' ⟨rfl, hb⟩; have HB2 := Aside0.mk (below_step HB.out hb); clear hb HB; have HB := HB2; clear HB2)
              go_roundg (gk - 1)
              case measure => have := HK.out; omega
              case rel => exact ⟨i + 1, (by first | (rw [HW.out]; done) | go_num | (simp; done)), ⟨by have := HK.out; omega⟩, H2, HB⟩
            · rw [if_neg he0] at H1
              have b0 : (e != 0) = true := bne_iff_ne.mpr he0
              clear he0
              obtain rfl := Option.some.inj H1
              have h := HG.out
              rw [if_pos rfl] at h
              simp only [Option.some.injEq, Prod.mk.injEq] at h
              obtain ⟨rfl, rfl, rfl, rfl⟩ := h
              go_wp2_with (go_at_call 56; (with_reducible refine (selvageref10_Valid.calls k g.f0 g.f1 g.f2 g.f3 g.f4 A5 c5 g.f5 e _ ?s1 HC5.out HE1.out).mono ?_); (case s1 => exact Kd.C_below HR5.out HB.out); rintro e' w' ⟨rfl, hb⟩; have HB2 := Aside0.mk (below_step HB.out hb); clear hb HB; have HB := HB2; clear HB2)
              (try simp only [Exit.inBlock, Exit.then]); refine bodyPost_ret (results_tmp4 rfl _ _ _) rfl ?_
              exact ⟨_, _, _, rfl, Kd.R_nil _ _ _ _ _, Kd.R_nil _ _ _ _ _, Kd.R_nil _ _ _ _ _, HB.out⟩
          · have hd : l1.drop i = [] := List.drop_of_length_le (by omega)
            have h1 := H.out
            rw [hd] at h1
            simp only [refBadL] at h1
            obtain rfl := Option.some.inj h1
            have z1_ : decide ((i : Int) < (l1.length : Int)) = false := decide_eq_false (by omega)
            have h := HG.out
            rw [if_neg (by simp)] at h
            obtain ⟨⟨z1, z2, z3, z4⟩, hz, h⟩ := Option.bind_eq_some_iff.mp h
            have HZ := Aside0.mk hz
            simp only [] at h
            have HE := Aside0.mk h
            clear hz h H HG hd
            go_wp2
            clear HK z1_ hi
            obtain ⟨wo, rfl⟩ : ∃ wo : World, wo = wr := ⟨_, rfl⟩
            go_loopg [11, 12, 13, 14, 15, 16, 17] (l1.length + 1) (fun kq v11 v12 v13 v14 v15 v16 v17 w' => ∃ (i : Nat) (frm off more : Int) (out : List ByteArray) (hits : List S79) (rej : List Int), v17 = .int .i64 (i : Int) ∧ v14 = .int .i64 frm ∧ v15 = .int .i64 off ∧ v16 = .int .i64 more ∧ Aside0 (i + kq = l1.length + 1 ∧ i ≤ l1.length) ∧ Aside0 (refApplyL k old fuzz (l1.drop i) i frm off more out hits rej = some (z1, z2, z3, z4)) ∧ Aside0 (AppInR w v11 v12 v13 out hits rej w'))
            case atStart => exact ⟨0, 0, 0, 0, [], [], [], rfl, rfl, rfl, rfl, ⟨by omega⟩, HZ, ⟨HB.out, Kd.R_nil _ _ _ _ _, Kd.R_nil _ _ _ _ _, Kd.R_nil _ _ _ _ _⟩⟩
            case round =>
              clear HB HZ
              obtain ⟨i, frm, off, more, out, hits, rej, rfl, rfl, rfl, rfl, HK, H, HA⟩ := hrel
              by_cases hi : i < l1.length
              · have p1 : 0 ≤ (i : Int) := by omega
                have q1 : (i : Int) < (l1.length : Int) := by omega
                have H1 := H.out
                rw [dropS l1 z41 i hi] at H1
                simp only [refApplyL] at H1
                have hrd : l1.getD i z41 = rd_T41 l1 (i : Int) := rfl
                rw [hrd] at H1
                obtain ⟨ad, A5, c5, e1, hx0, hx1, hx2, hx3, hx4, hx5, hc5, hr5⟩ := at_T41 HR1.out (i : Int) p1 q1
                replace hx0 := pw_cell_below HA.out.below hx0
                replace hx1 := pw_cell_below HA.out.below hx1
                replace hx2 := pw_cell_below HA.out.below hx2
                replace hx3 := pw_cell_below HA.out.below hx3
                replace hx4 := pw_cell_below HA.out.below hx4
                replace hx5 := pw_cell_below HA.out.below hx5
                cases e1
                simp only [Int.toNat_natCast] at hx0 hx1 hx2 hx3 hx4 hx5
                have z1_ : decide ((i : Int) < (l1.length : Int)) = true := decide_eq_true q1
                generalize rd_T41 l1 (i : Int) = g at H1 hx0 hx1 hx2 hx3 hx4 hx5 hc5 hr5
                clear hrd H
                have H2 := Aside0.mk H1
                have HC5 := Aside0.mk hc5
                have HR5 := Aside0.mk hr5
                have HW : Aside0 (wrap64 ((i : Int) + 1) = ((i + 1 : Nat) : Int)) := ⟨by rw [Pure.w64' (by omega) (by have := HLEN.out; omega)]; omega⟩
                clear H1 hc5 hr5
                go_upto_region 18 with ((with_reducible refine gate_dst (N := 18) rfl ?_); refine box_event ?hg (N := 18) ?hd (cs := #[.int .i64 0, .int .i64 0, .int .i64 0, .int .i64 0, .string ⟨#[]⟩, .slice none 0 0]) (t := 41) ?hr ?_; (case hd => rfl); (case hg => rfl); (case hr => first | (go_simp; done) | (go_simp; rfl)); intro gb hg wx hbox hb; have NG := Aside0.mk (show w.heap.size ≤ gb by have := HA.out.below.size; omega); have HX_ := Aside0.mk (HA.out.then hb); have BX := Aside0.mk hbox; clear HA; clear hb hg; have cz0 := (blk_cell hbox 0).trans rfl; have fz0 := blk_frozen hbox 0; have cz1 := (blk_cell hbox 1).trans rfl; have fz1 := blk_frozen hbox 1; have cz2 := (blk_cell hbox 2).trans rfl; have fz2 := blk_frozen hbox 2; have cz3 := (blk_cell hbox 3).trans rfl; have fz3 := blk_frozen hbox 3; have cz4 := (blk_cell hbox 4).trans rfl; have fz4 := blk_frozen hbox 4; have cz5 := (blk_cell hbox 5).trans rfl; have fz5 := blk_frozen hbox 5; clear hbox)
                have HI : Aside0 (RoundInR w u11 u12 u13 out hits rej gb A5 c5 g ((((((wx.setCell ⟨gb, 0, none⟩ (.int .i64 g.f0)).setCell ⟨gb, 1, none⟩ (.int .i64 g.f1)).setCell ⟨gb, 2, none⟩ (.int .i64 g.f2)).setCell ⟨gb, 3, none⟩ (.int .i64 g.f3)).setCell ⟨gb, 4, none⟩ (.string g.f4)).setCell ⟨gb, 5, none⟩ (.slice A5 g.f5.length c5))) := ⟨⟨((((((HX_.out.set BX.out NG.out 0 (.int .i64 g.f0)).set (blk_set BX.out 0 (.int .i64 g.f0)) NG.out 1 (.int .i64 g.f1)).set (blk_set (blk_set BX.out 0 (.int .i64 g.f0)) 1 (.int .i64 g.f1)) NG.out 2 (.int .i64 g.f2)).set (blk_set (blk_set (blk_set BX.out 0 (.int .i64 g.f0)) 1 (.int .i64 g.f1)) 2 (.int .i64 g.f2)) NG.out 3 (.int .i64 g.f3)).set (blk_set (blk_set (blk_set (blk_set BX.out 0 (.int .i64 g.f0)) 1 (.int .i64 g.f1)) 2 (.int .i64 g.f2)) 3 (.int .i64 g.f3)) NG.out 4 (.string g.f4)).set (blk_set (blk_set (blk_set (blk_set (blk_set BX.out 0 (.int .i64 g.f0)) 1 (.int .i64 g.f1)) 2 (.int .i64 g.f2)) 3 (.int .i64 g.f3)) 4 (.string g.f4)) NG.out 5 (.slice A5 g.f5.length c5)), (blk_set (blk_set (blk_set (blk_set (blk_set (blk_set BX.out 0 (.int .i64 g.f0)) 1 (.int .i64 g.f1)) 2 (.int .i64 g.f2)) 3 (.int .i64 g.f3)) 4 (.string g.f4)) 5 (.slice A5 g.f5.length c5))⟩⟩
                clear HX_ BX NG cz0 cz1 cz2 cz3 cz4 cz5 fz0 fz1 fz2 fz3 fz4 fz5 hx0 hx1 hx2 hx3 hx4 hx5
                generalize ((((((wx.setCell ⟨gb, 0, none⟩ (.int .i64 g.f0)).setCell ⟨gb, 1, none⟩ (.int .i64 g.f1)).setCell ⟨gb, 2, none⟩ (.int .i64 g.f2)).setCell ⟨gb, 3, none⟩ (.int .i64 g.f3)).setCell ⟨gb, 4, none⟩ (.string g.f4)).setCell ⟨gb, 5, none⟩ (.slice A5 g.f5.length c5)) = W1 at HI ⊢
                obtain ⟨x0, x1, x2, x3, x4, x5⟩ := HI.out.cells
                obtain ⟨⟨q, f, b⟩, hf, H1⟩ := Option.bind_eq_some_iff.mp H2.out
                have HF := Aside0.mk hf
                clear hf H2
                cases b with
                | false =>
                  rw [if_neg (by simp)] at H1
                  split at H1
                  case isFalse => cases H1
                  rename_i hlim
                  have LIM := Aside0.mk hlim
                  have H2 := Aside0.mk H1
                  clear hlim H1
                  go_wp2_with (first | (go_at_call 57; (with_reducible refine (refFind.calls k A0 c0 old g A5 c5 frm off fuzz q f false _ ?s1 HC0.out ?s3 HC5.out HF.out).mono ?_); (case s1 => exact Kd.C_below HR0.out HI.out.app.below); (case s3 => exact Kd.C_below HR5.out HI.out.app.below); rintro e' w' ⟨rfl, hb⟩; have HI2 := Aside0.mk (HI.out.then hb); clear hb HI x0 x1 x2 x3 x4 x5; have HI := HI2; clear HI2; obtain ⟨x0, x1, x2, x3, x4, x5⟩ := HI.out.cells) | ((with_reducible refine gate_builtin (b := .append) (xs := #[.tmp 69, .tmp 71]) rfl ?_); at_builtin; refine Kd.R_append (Kd.int .i64) (w0 := w) w.heap.size rfl (.tmp 69) (.tmp 71) 32 3 (.int .i64 0) 8 rfl Try.underlying32 infoInt rfl (by decide) (by omega) u13 rej (i : Int) [.int .i64 (i : Int)] (fun _ => True) (fun _ => False) rfl rfl ?aP (fun _ hk => hk.elim) ?aF ?aO ?aB ?aS ?aL ?_; (case aP => exact rfl); (case aB => exact (HI.out.then (by repeat (first | exact Below.refl _ _ | apply below_alloc | apply pw_below_drewN))).app.below); (case aF => exact fun _ _ => trivial); (case aO => exact (HI.out.then (by repeat (first | exact Below.refl _ _ | apply below_alloc | apply pw_below_drewN))).app.r); (case aS => exact (HI.out.then (by repeat (first | exact Below.refl _ _ | apply below_alloc | apply pw_below_drewN))).app.below.size); (case aL => have := LIM.out; omega); intro v13 w1 ho hb hg hat; have HI2 := Aside0.mk (RoundInR.rejected (HI.out.then (by repeat (first | exact Below.refl _ _ | apply below_alloc | apply pw_below_drewN))) hb hg ho); clear HI ho hb hg hat x0 x1 x2 x3 x4 x5; have HI := HI2; clear HI2; obtain ⟨x0, x1, x2, x3, x4, x5⟩ := HI.out.cells))
                  go_roundg (gk - 1)
                  case measure => have := HK.out; omega
                  case rel => exact ⟨i + 1, frm, off, more, out, hits, rej ++ [(i : Int)], (by first | (rw [HW.out]; done) | go_num | (simp; done)), rfl, rfl, rfl, ⟨by have := HK.out; omega⟩, H2, ⟨HI.out.app⟩⟩
                | true =>
                  rw [if_pos rfl] at H1
                  obtain ⟨⟨rows, kk⟩, hx, H1⟩ := Option.bind_eq_some_iff.mp H1
                  obtain ⟨a, hy, H1⟩ := Option.bind_eq_some_iff.mp H1
                  obtain ⟨b, hy2, H1⟩ := Option.bind_eq_some_iff.mp H1
                  obtain ⟨s, hs, H1⟩ := Option.bind_eq_some_iff.mp H1
                  split at H1
                  case isFalse => cases H1
                  rename_i hlim
                  have HX := Aside0.mk hx
                  have HY := Aside0.mk hy
                  have HZ2 := Aside0.mk hy2
                  have HS := Aside0.mk hs
                  obtain ⟨hc1, hlim⟩ := hlim
                  simp only [] at hc1 hlim H1
                  have LIM := Aside0.mk hlim
                  obtain ⟨i0, hi0, _, hsz, _⟩ := info_parts info9
                  obtain ⟨AC, hcut, hrc, hcc⟩ := cut_rows Kd.string 23 9 Try.underlying23 hi0 hsz A0 c0 old frm (wrap64 (q + kk)) hc1.1 hc1.2.1 hc1.2.2 HC0.out
                  have HCR := Aside0.mk hrc
                  obtain ⟨out1, ho1⟩ : ∃ z, z = out ++ cutL old frm (wrap64 (q + kk)) := ⟨_, rfl⟩
                  rw [← ho1] at H1
                  have HO1 := Aside0.mk ho1
                  have H2 := Aside0.mk H1
                  clear hx hy hy2 hs hlim hc1 hrc hcc hi0 hsz ho1 H1
                  go_upto_region 22 with (first | (go_at_call 57; (with_reducible refine (refFind.calls k A0 c0 old g A5 c5 frm off fuzz q f true _ ?s1 HC0.out ?s3 HC5.out HF.out).mono ?_); (case s1 => exact Kd.C_below HR0.out HI.out.app.below); (case s3 => exact Kd.C_below HR5.out HI.out.app.below); rintro e' w' ⟨rfl, hb⟩; have HI2 := Aside0.mk (HI.out.then hb); clear hb HI x0 x1 x2 x3 x4 x5; have HI := HI2; clear HI2; obtain ⟨x0, x1, x2, x3, x4, x5⟩ := HI.out.cells) | (go_at_call 58; (with_reducible refine (refLeft.calls k g A5 c5 f rows kk _ ?s1 HC5.out HX.out).mono ?_); (case s1 => exact Kd.C_below HR5.out HI.out.app.below); rintro e' w' ⟨A', c', rfl, hrr, hrc, hb⟩; have HRR := Aside0.mk hrr; have HRC := Aside0.mk hrc; clear hrr hrc; have HI2 := Aside0.mk (HI.out.then hb); clear hb HI x0 x1 x2 x3 x4 x5; have HI := HI2; clear HI2; obtain ⟨x0, x1, x2, x3, x4, x5⟩ := HI.out.cells))
                  go_upto_region 23 with (first | (go_at_call 59; (with_reducible refine (selvageref17_side.calls k A' c' rows 3 a _ HRR.out HRC.out HY.out).mono ?_); rintro e' w' ⟨v0, rfl, ho0, hb⟩; obtain ⟨A9, c9, rfl⟩ := own_slice (Kd.own_of_R ho0); have HRR2 := Aside0.mk (Kd.C_below HRR.out hb); clear ho0 HRR; have HRR := HRR2; clear HRR2; have HI2 := Aside0.mk (HI.out.then hb); clear hb HI x0 x1 x2 x3 x4 x5; have HI := HI2; clear HI2; obtain ⟨x0, x1, x2, x3, x4, x5⟩ := HI.out.cells) | (go_at_call 59; (with_reducible refine (selvageref17_side.calls k A' c' rows 2 b _ HRR.out HRC.out HZ2.out).mono ?_); rintro e' w' ⟨v1, rfl, ho1, hb⟩; obtain ⟨A8, c8, rfl⟩ := own_slice (Kd.own_of_R ho1); have HO8 := Aside0.mk (Kd.R_newR ho1 HI.out.app.o); clear ho1; have HI2 := Aside0.mk (HI.out.then hb); clear hb HI x0 x1 x2 x3 x4 x5; have HI := HI2; clear HI2; obtain ⟨x0, x1, x2, x3, x4, x5⟩ := HI.out.cells))
                  go_upto_region 24 with ((with_reducible refine gate_builtin (b := .append) (xs := #[.tmp 83, .tmp 89]) rfl ?_); at_builtin; refine Kd.R_append_rows Kd.string (w0 := w) w.heap.size rfl (.tmp 83) (.tmp 89) 23 9 (.string ⟨#[]⟩) 16 rfl Try.underlying23 info9 rfl (by decide) (by omega) u11 out (cutL old frm (wrap64 (q + kk))) _ _ _ (fun _ => True) (fun _ => False) rfl rfl ?aO ?aR (fun _ _ h => h) (fun _ h => h.elim) ?aF ?aB ?aS ?aL ?_; (case aR => exact HCR.out _ (Kd.C_below HR0.out HI.out.app.below)); (case aB => exact HI.out.app.below); (case aF => exact fun _ _ => trivial); (case aO => exact HI.out.app.o); (case aS => exact HI.out.app.below.size); (case aL => have := LIM.out.1; simp only [List.length_append] at this; omega); intro v10 w1 ho hb hg hat; rw [← HO1.out] at ho; obtain ⟨A10, c10, rfl⟩ := own_slice (Kd.own_of_R ho); have HI2 := Aside0.mk (HI.out.outs hb hg ho); have HO8b := Aside0.mk (Kd.R_grown HO8.out hg (fun k_ hk_ => hk_.2)); clear HI HO8 ho hb hg hat x0 x1 x2 x3 x4 x5; have HI := HI2; have HO8 := HO8b; clear HI2 HO8b; obtain ⟨x0, x1, x2, x3, x4, x5⟩ := HI.out.cells)
                  go_wp2_with (first | ((with_reducible refine gate_builtin (b := .append) (xs := #[.tmp 91, .tmp 92]) rfl ?_); at_builtin; refine Kd.R_append_rows Kd.string (w0 := w) w.heap.size rfl (.tmp 91) (.tmp 92) 23 9 (.string ⟨#[]⟩) 16 rfl Try.underlying23 info9 rfl (by decide) (by omega) (.slice A10 out1.length c10) out1 b _ _ _ (fun _ => True) (fun _ => False) rfl rfl ?aO ?aR (fun _ _ h => h) (fun _ h => h.elim) ?aF ?aB ?aS ?aL ?_; (case aR => exact (Kd.R_reads' HO8.out).2.2); (case aB => exact HI.out.app.below); (case aF => exact fun _ _ => trivial); (case aO => exact HI.out.app.o); (case aS => exact HI.out.app.below.size); (case aL => have := LIM.out.1; rw [← HO1.out] at this; simp only [List.length_append] at this; omega); intro v12 w1 ho hb hg hat; have HI2 := Aside0.mk (HI.out.outs hb hg ho); clear HI HO8 ho hb hg hat x0 x1 x2 x3 x4 x5; have HI := HI2; clear HI2; obtain ⟨x0, x1, x2, x3, x4, x5⟩ := HI.out.cells) | (go_at_call 60; (with_reducible refine (selvageref17_Stated.calls g.f0 g.f1 g.f2 g.f3 g.f4 A5 c5 g.f5 s _ ?s1 HC5.out HS.out).mono ?_); (case s1 => exact Kd.C_below HR5.out HI.out.app.below); rintro e' w' ⟨rfl, hb⟩; have HI2 := Aside0.mk (HI.out.then hb); clear hb HI x0 x1 x2 x3 x4 x5; have HI := HI2; clear HI2; obtain ⟨x0, x1, x2, x3, x4, x5⟩ := HI.out.cells) | ((with_reducible refine gate_builtin (b := .append) (xs := #[.tmp 104, .tmp 113]) rfl ?_); at_builtin; refine Kd.R_append k79 (w0 := w) w.heap.size rfl (.tmp 104) (.tmp 113) 76 79 (.agg #[.int .i64 0, .int .i64 0, .int .i64 0, .int .i64 0]) 32 rfl Try.underlying76 infoHitR rfl (by decide) (by omega) u12 hits (⟨(i : Int), (wrap64 (wrap64 (q + 1) + more)), wrap64 (q - s), f⟩ : S79) [.int .i64 (i : Int), .int .i64 (wrap64 (wrap64 (q + 1) + more)), .int .i64 (wrap64 (q - s)), .int .i64 f] (fun _ => True) (fun _ => False) rfl rfl ?aP (fun _ hk => hk.elim) ?aF ?aO ?aB ?aS ?aL ?_; (case aP => exact k79_mkM _ _ _ (⟨(i : Int), (wrap64 (wrap64 (q + 1) + more)), wrap64 (q - s), f⟩ : S79)); (case aB => exact (HI.out.then (by repeat (first | exact Below.refl _ _ | apply below_alloc | apply pw_below_drewN))).app.below); (case aF => exact fun _ _ => trivial); (case aO => exact (HI.out.then (by repeat (first | exact Below.refl _ _ | apply below_alloc | apply pw_below_drewN))).app.h); (case aS => exact (HI.out.then (by repeat (first | exact Below.refl _ _ | apply below_alloc | apply pw_below_drewN))).app.below.size); (case aL => have := LIM.out.2; omega); intro v13 w1 ho hb hg hat; have HI2 := Aside0.mk (RoundInR.hitted (HI.out.then (by repeat (first | exact Below.refl _ _ | apply below_alloc | apply pw_below_drewN))) hb hg ho); clear HI ho hb hg hat x0 x1 x2 x3 x4 x5; have HI := HI2; clear HI2; obtain ⟨x0, x1, x2, x3, x4, x5⟩ := HI.out.cells))
                  go_roundg (gk - 1)
                  case measure => have := HK.out; omega
                  case rel => exact ⟨i + 1, _, _, _, _, _, rej, (by first | (rw [HW.out]; done) | go_num | (simp; done)), rfl, rfl, rfl, ⟨by have := HK.out; omega⟩, H2, ⟨HI.out.app⟩⟩
              · have hd : l1.drop i = [] := List.drop_of_length_le (by omega)
                have h1 := H.out
                rw [hd] at h1
                simp only [refApplyL, Option.some.injEq, Prod.mk.injEq] at h1
                obtain ⟨rfl, rfl, rfl, rfl⟩ := h1
                have z1_ : decide ((i : Int) < (l1.length : Int)) = false := decide_eq_false (by omega)
                clear H
                have h := HE.out
                split at h
                case isFalse => cases h
                rename_i hlim
                obtain ⟨hc1, hlim⟩ := hlim
                obtain ⟨out1, ho1⟩ : ∃ z, z = out ++ cutL old frm old.length := ⟨_, rfl⟩
                rw [← ho1] at h hlim
                obtain ⟨i0, hi0, _, hsz, _⟩ := info_parts info9
                obtain ⟨AC, hcut, hrc, hcc⟩ := cut_rest Kd.string 23 9 Try.underlying23 hi0 hsz A0 c0 old frm hc1.1 hc1.2 HC0.out
                have HCR := Aside0.mk hrc
                have HO1 := Aside0.mk ho1
                have LIM := Aside0.mk hlim
                obtain ⟨v2, hv2, h⟩ := Option.bind_eq_some_iff.mp h
                have HV2 := Aside0.mk hv2
                clear hlim hc1 hrc hcc hi0 hsz ho1 hv2 HE
                cases v2 with
                | true =>
                  rw [if_pos rfl] at h
                  simp only [Option.some.injEq, Prod.mk.injEq] at h
                  obtain ⟨rfl, rfl, rfl, rfl⟩ := h
                  go_wp2_with (first | ((with_reducible refine gate_builtin (b := .append) (xs := #[.tmp 122, .tmp 125]) rfl ?_); at_builtin; refine Kd.R_append_rows Kd.string (w0 := w) w.heap.size rfl (.tmp 122) (.tmp 125) 23 9 (.string ⟨#[]⟩) 16 rfl Try.underlying23 info9 rfl (by decide) (by omega) u11 out (cutL old frm old.length) _ _ _ (fun _ => True) (fun _ => False) rfl rfl ?aO ?aR (fun _ _ h => h) (fun _ h => h.elim) ?aF ?aB ?aS ?aL ?_; (case aR => exact HCR.out _ (Kd.C_below HR0.out HA.out.below)); (case aB => exact HA.out.below); (case aF => exact fun _ _ => trivial); (case aO => exact HA.out.o); (case aS => exact HA.out.below.size); (case aL => have := LIM.out; rw [HO1.out] at this; simp only [List.length_append] at this; omega); intro v10 w1 ho hb hg hat; rw [← HO1.out] at ho; obtain ⟨A10, c10, rfl⟩ := own_slice (Kd.own_of_R ho); have HA2 := Aside0.mk (HA.out.outs hb hg ho); clear HA ho hb hg hat; have HA := HA2; clear HA2) | (go_at_call 16; (with_reducible refine (selvageref01_Valid.calls k A10 c10 out1 true _ ?s1 ?s2 HV2.out).mono ?_); (case s1 => exact (Kd.R_reads' HA.out.o).2.2); (case s2 => exact (Kd.R_reads' HA.out.o).2.1); rintro e' w' ⟨rfl, hd⟩; have HA2 := Aside0.mk (HA.out.then hd.below); clear hd HA; have HA := HA2; clear HA2))
                  (try simp only [Exit.inBlock, Exit.then]); refine bodyPost_ret (results_tmp4 rfl _ _ _) rfl ?_
                  exact ⟨_, _, _, rfl, HA.out.o, HA.out.h, HA.out.r, HA.out.below⟩
                | false =>
                  rw [if_neg (by simp)] at h
                  simp only [Option.some.injEq, Prod.mk.injEq] at h
                  obtain ⟨rfl, rfl, rfl, rfl⟩ := h
                  go_wp2_with (first | ((with_reducible refine gate_builtin (b := .append) (xs := #[.tmp 122, .tmp 125]) rfl ?_); at_builtin; refine Kd.R_append_rows Kd.string (w0 := w) w.heap.size rfl (.tmp 122) (.tmp 125) 23 9 (.string ⟨#[]⟩) 16 rfl Try.underlying23 info9 rfl (by decide) (by omega) u11 out (cutL old frm old.length) _ _ _ (fun _ => True) (fun _ => False) rfl rfl ?aO ?aR (fun _ _ h => h) (fun _ h => h.elim) ?aF ?aB ?aS ?aL ?_; (case aR => exact HCR.out _ (Kd.C_below HR0.out HA.out.below)); (case aB => exact HA.out.below); (case aF => exact fun _ _ => trivial); (case aO => exact HA.out.o); (case aS => exact HA.out.below.size); (case aL => have := LIM.out; rw [HO1.out] at this; simp only [List.length_append] at this; omega); intro v10 w1 ho hb hg hat; rw [← HO1.out] at ho; obtain ⟨A10, c10, rfl⟩ := own_slice (Kd.own_of_R ho); have HA2 := Aside0.mk (HA.out.outs hb hg ho); clear HA ho hb hg hat; have HA := HA2; clear HA2) | (go_at_call 16; (with_reducible refine (selvageref01_Valid.calls k A10 c10 out1 false _ ?s1 ?s2 HV2.out).mono ?_); (case s1 => exact (Kd.R_reads' HA.out.o).2.2); (case s2 => exact (Kd.R_reads' HA.out.o).2.1); rintro e' w' ⟨rfl, hd⟩; have HA2 := Aside0.mk (HA.out.then hd.below); clear hd HA; have HA := HA2; clear HA2))
                  (try simp only [Exit.inBlock, Exit.then]); refine bodyPost_ret (results_tmp4 rfl _ _ _) rfl ?_
                  exact ⟨_, _, _, rfl, Kd.R_nil _ _ _ _ _, Kd.R_nil _ _ _ _ _, Kd.R_nil _ _ _ _ _, HA.out.below⟩
end Go.Proofs.Ytkoagpnoaibdjaa.Ext
