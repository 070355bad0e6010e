/-
  selvageref17.Left and Find; walked by hand.
-/
import Derived.Test.YtkoagpnoaibdjaaELeft
import Derived.Test.YtkoagpnoaibdjaaPp18
import Derived.Test.YtkoagpnoaibdjaaPp19
namespace Go.Proofs.Ytkoagpnoaibdjaa.Ext
open Go.RowKit Go.Proofs.Ytkoagpnoaibdjaa.Pp Go.Proofs.YtkoagpnoaibdjaaW.PrintWords Go.Proofs.YtkoagpnoaibdjaaW.PrintLast Go.Proofs.YtkoagpnoaibdjaaW.PrintMore
set_option linter.unusedVariables false
set_option linter.unusedSimpArgs false
attribute [local go_sem] max_two min_two
def minF (a b : Int) : Int := if b < a then b else a
structure BoxIn (w0 : World) (A5 : Option Addr) (c5 : Nat) (h : S41) (g6 : Nat) (w : World) : Prop where
  below : Below w0.heap.size w0 w
  b6 : w.heap[g6]? = some (.cells #[.int .i64 h.f0, .int .i64 h.f1, .int .i64 h.f2, .int .i64 h.f3, .string h.f4, .slice A5 h.f5.length c5] 41 (0, 0))
section
variable {w0 w w' : World} {A5 : Option Addr} {c5 : Nat} {h : S41} {g6 : Nat}
theorem BoxIn.then (i : BoxIn w0 A5 c5 h g6 w) (k : Below w.heap.size w w') : BoxIn w0 A5 c5 h g6 w' := ⟨below_step i.below k, blk_below i.b6 k⟩
theorem BoxIn.cells (i : BoxIn w0 A5 c5 h g6 w) :
    w.cell? ⟨g6, 0, none⟩ = some (.int .i64 h.f0) ∧ w.cell? ⟨g6, 1, none⟩ = some (.int .i64 h.f1) ∧ w.cell? ⟨g6, 2, none⟩ = some (.int .i64 h.f2) ∧
      w.cell? ⟨g6, 3, none⟩ = some (.int .i64 h.f3) ∧ w.cell? ⟨g6, 4, none⟩ = some (.string h.f4) ∧ w.cell? ⟨g6, 5, none⟩ = some (.slice A5 h.f5.length c5) :=
  ⟨(blk_cell i.b6 0).trans rfl, (blk_cell i.b6 1).trans rfl, (blk_cell i.b6 2).trans rfl, (blk_cell i.b6 3).trans rfl, (blk_cell i.b6 4).trans rfl, (blk_cell i.b6 5).trans rfl⟩
theorem BoxIn.new (w : World) (A5 : Option Addr) (c5 : Nat) (h : S41) : BoxIn w A5 c5 h w.heap.size (w.alloc (Obj.cells #[.int .i64 h.f0, .int .i64 h.f1, .int .i64 h.f2, .int .i64 h.f3, .string h.f4, .slice A5 h.f5.length c5] 41)) := ⟨below_alloc (Below.refl _ _) _, blk_new _ _⟩
end
def refLeftF (k : Nat) (h : S41) (f : Int) : Option (List S72 × Int) :=
  (selvageref17_contexts.f k h.f0 h.f1 h.f2 h.f3 h.f4 h.f5).bind fun x =>
    if 0 ≤ minF x.1 f ∧ minF x.1 f ≤ wrap64 ((h.f5.length : Int) - minF x.2 f) ∧ wrap64 ((h.f5.length : Int) - minF x.2 f) ≤ h.f5.length then
      some (cutL h.f5 (minF x.1 f) (wrap64 ((h.f5.length : Int) - minF x.2 f)), minF x.1 f) else none
theorem refLeftF.mono (h : S41) (f : Int) (k : Nat) : LeO (refLeftF k h f) (refLeftF (k + 1) h f) := by
  unfold refLeftF
  exact LeO.bind (selvageref17_contexts.mono _ _ _ _ _ _ _) fun _ => LeO.refl _
set_option maxHeartbeats 8000000 in
set_option maxRecDepth 100000 in
theorem refLeft.calls (k : Nat) (h : S41) (A5 : Option Addr) (c5 : Nat) (f : Int) (r1 : List S72) (r2 : Int) (w : World) (hr : Kd.C k72 w A5 h.f5.length h.f5) (hc : h.f5.length ≤ c5) (hf : refLeftF k h f = some (r1, r2)) :
    Calls Try.prog 58 #[agH A5 c5 h, .int .i64 f] w fun e w' => ∃ A' c', e = .returned (.tuple #[.slice A' r1.length c', .int .i64 r2]) ∧ Kd.C k72 w' A' r1.length r1 ∧ r1.length ≤ c' ∧ Below w.heap.size w w' := by
  have hu41 := Try.underlying41
  unfold refLeftF at hf
  obtain ⟨⟨a, b⟩, hx, hf⟩ := Option.bind_eq_some_iff.mp hf
  simp only [] at hf
  split at hf
  case isFalse => cases hf
  rename_i hh
  simp only [Option.some.injEq, Prod.mk.injEq] at hf
  obtain ⟨rfl, rfl⟩ := hf
  have hmin1 : ∀ k k' : IntKind, Builtin.min2 (.int k a) (.int k' f) = pure (.int k (minF a f)) := fun k k' => min2_int k k' a f
  have hmin2 : ∀ k k' : IntKind, Builtin.min2 (.int k b) (.int k' f) = pure (.int k (minF b f)) := fun k k' => min2_int k k' b f
  obtain ⟨i0, hi0, _, hsz, _⟩ := info_parts info72
  obtain ⟨A', hcut, hrc, hcc⟩ := cut_rows k72 39 72 Try.underlying39 hi0 hsz A5 c5 h.f5 (minF a f) (wrap64 ((h.f5.length : Int) - minF b f)) hh.1 hh.2.1 hh.2.2 hc
  have HR := Aside0.mk hr
  have HC := Aside0.mk hc
  have HX := Aside0.mk hx
  have HCC := Aside0.mk hcc
  have HRC := Aside0.mk hrc
  clear hr hc hx hcc hrc hi0 hsz hh
  go_enter Try.func58, Try.ntmps58
  go_upto_region 1 with (fail)
  have HI := Aside0.mk (BoxIn.new w A5 c5 h)
  generalize w.alloc (Obj.cells #[.int .i64 h.f0, .int .i64 h.f1, .int .i64 h.f2, .int .i64 h.f3, .string h.f4, .slice A5 h.f5.length c5] 41) = W at HI ⊢
  obtain ⟨x0, x1, x2, x3, x4, x5⟩ := HI.out.cells
  go_wp2_with (go_at_call 73; (with_reducible refine (selvageref17_contexts.calls k h.f0 h.f1 h.f2 h.f3 h.f4 A5 c5 h.f5 a b _ ?s1 HC.out HX.out).mono ?_); (case s1 => exact Kd.C_below HR.out HI.out.below); rintro e' w' ⟨rfl, hb⟩; have HI2 := Aside0.mk (HI.out.then hb); clear hb HI x0 x1 x2 x3 x4 x5; have HI := HI2; clear HI2; obtain ⟨x0, x1, x2, x3, x4, x5⟩ := HI.out.cells)
  go_ret2
  exact ⟨_, _, rfl, HRC.out _ (Kd.C_below HR.out HI.out.below), HCC.out, HI.out.below⟩
def refP (k : Nat) (old l : List ByteArray) (kk want : Int) : Nat → Int → Int → Bool → Option (Int × Bool)
  | 0, _, _, _ => none
  | g + 1, p, best, found =>
    if wrap64 (p + (l.length : Int)) ≤ old.length then
      (selvageref17_at.f k old p l).bind fun t =>
        if t = true then
          (if found = true then (selvageref17_far.f (wrap64 (p - kk)) want).bind fun x => (selvageref17_far.f best want).bind fun y =>
            if x < y then refP k old l kk want g (wrap64 (p + 1)) (wrap64 (p - kk)) true else refP k old l kk want g (wrap64 (p + 1)) best true
          else refP k old l kk want g (wrap64 (p + 1)) (wrap64 (p - kk)) true)
        else refP k old l kk want g (wrap64 (p + 1)) best found
    else some (best, found)
theorem refP.mono (old l : List ByteArray) (kk want : Int) (k : Nat) : ∀ (g : Nat) (p best : Int) (found : Bool), LeO (refP k old l kk want g p best found) (refP (k + 1) old l kk want (g + 1) p best found)
  | 0, _, _, _ => LeO.none _
  | g + 1, p, best, found => by
    have ih := refP.mono old l kk want k g
    unfold refP
    exact LeO.ite (LeO.bind (selvageref17_at.mono _ _ _ _) fun t => LeO.ite (LeO.ite (LeO.bind (LeO.refl _) fun _ => LeO.bind (LeO.refl _) fun _ => LeO.ite (ih _ _ _) (ih _ _ _)) (ih _ _ _)) (ih _ _ _)) (LeO.refl _)
def atM3 (f : Int) : Int := if 3 < f then 3 else f
def atL0 (f : Int) : Int := if f < 0 then 0 else f
def refFindL (k : Nat) (old : List ByteArray) (h : S41) (frm want fuzz : Int) : Nat → Int → Option (Int × Int × Bool)
  | 0, _ => none
  | g + 1, f =>
    if f ≤ atM3 fuzz then
      (refLeftF k h f).bind fun x => (selvageref17_side.f k x.1 3).bind fun l =>
        (refP k old l x.2 want k (minF frm (wrap64 ((old.length : Int) + 1))) 0 false).bind fun z =>
          if z.2 = true then some (z.1, f, true) else refFindL k old h frm want fuzz g (wrap64 (f + 1))
    else some (0, 0, false)
theorem refFindL.mono (old : List ByteArray) (h : S41) (frm want fuzz : Int) (k : Nat) : ∀ (g : Nat) (f : Int), LeO (refFindL k old h frm want fuzz g f) (refFindL (k + 1) old h frm want fuzz (g + 1) f)
  | 0, _ => LeO.none _
  | g + 1, f => by
    have ih := refFindL.mono old h frm want fuzz k g
    unfold refFindL
    exact LeO.ite (LeO.bind (refLeftF.mono _ _ _) fun x => LeO.bind (selvageref17_side.mono _ _ _) fun l => LeO.bind (refP.mono _ _ _ _ _ _ _ _ _) fun z => LeO.ite (LeO.refl _) (ih _)) (LeO.refl _)
def refFind.g (k : Nat) (old : List ByteArray) (h : S41) (frm off fuzz : Int) : Option (Int × Int × Bool) :=
  (selvageref10_Valid.f k h.f0 h.f1 h.f2 h.f3 h.f4 h.f5).bind fun e => if e = 0 then
    (selvageref17_Stated.f h.f0 h.f1 h.f2 h.f3 h.f4 h.f5).bind fun s => (selvageref17_add.f k s off).bind fun want => refFindL k old h (atL0 frm) want fuzz k 0
  else some (0, 0, false)
theorem refFind.gmono (old : List ByteArray) (h : S41) (frm off fuzz : Int) (k : Nat) : LeO (refFind.g k old h frm off fuzz) (refFind.g (k + 1) old h frm off fuzz) := by
  unfold refFind.g
  exact LeO.bind (selvageref10_Valid.mono _ _ _ _ _ _ _) fun _ => LeO.ite (LeO.bind (LeO.refl _) fun _ => LeO.bind (selvageref17_add.mono _ _ _) fun _ => refFindL.mono _ _ _ _ _ _ _ _) (LeO.refl _)
set_option maxHeartbeats 16000000 in
set_option maxRecDepth 100000 in
theorem refFind.calls (k : Nat) (Ao : Option Addr) (co : Nat) (old : List ByteArray) (h : S41) (A5 : Option Addr) (c5 : Nat) (frm off fuzz : Int) (r1 r2 : Int) (r3 : Bool) (w : World)
    (hro : Kd.C Kd.string w Ao old.length old) (hco : old.length ≤ co) (hr : Kd.C k72 w A5 h.f5.length h.f5) (hc : h.f5.length ≤ c5) (hf : refFind.g k old h frm off fuzz = some (r1, r2, r3)) :
    Calls Try.prog 57 #[.slice Ao old.length co, agH A5 c5 h, .int .i64 frm, .int .i64 off, .int .i64 fuzz] w fun e w' => e = .returned (.tuple #[.int .i64 r1, .int .i64 r2, .bool r3]) ∧ Below w.heap.size w w' := by
  have hu41 := Try.underlying41
  unfold refFind.g at hf
  obtain ⟨e, he, hf⟩ := Option.bind_eq_some_iff.mp hf
  have HRO := Aside0.mk hro
  have HCO := Aside0.mk hco
  have HR := Aside0.mk hr
  have HC := Aside0.mk hc
  have HE := Aside0.mk he
  clear hro hco hr hc he
  have hmax : ∀ k k' : IntKind, Builtin.max2 (.int k frm) (.int k' 0) = pure (.int k (atL0 frm)) := fun k k' => max2_int k k' frm 0
  have hmin : ∀ k k' : IntKind, Builtin.min2 (.int k fuzz) (.int k' 3) = pure (.int k (atM3 fuzz)) := fun k k' => min2_int k k' fuzz 3
  have hmin2 : ∀ k k' : IntKind, Builtin.min2 (.int k (atL0 frm)) (.int k' (wrap64 ((old.length : Int) + 1))) = pure (.int k (minF (atL0 frm) (wrap64 ((old.length : Int) + 1)))) := fun k k' => min2_int k k' _ _
  go_enter Try.func57, Try.ntmps57
  go_upto_region 1 with (fail)
  have HI := Aside0.mk (BoxIn.new w A5 c5 h)
  generalize w.alloc (Obj.cells #[.int .i64 h.f0, .int .i64 h.f1, .int .i64 h.f2, .int .i64 h.f3, .string h.f4, .slice A5 h.f5.length c5] 41) = W at HI ⊢
  obtain ⟨x0, x1, x2, x3, x4, x5⟩ := HI.out.cells
  by_cases he0 : e = 0
  case neg =>
    rw [if_neg he0] at hf
    have b0 : (e != 0) = true := bne_iff_ne.mpr he0
    clear he0
    simp only [Option.some.injEq, Prod.mk.injEq] at hf
    obtain ⟨rfl, rfl, rfl⟩ := hf
    go_wp2_with (go_at_call 56; (with_reducible refine (selvageref10_Valid.calls k h.f0 h.f1 h.f2 h.f3 h.f4 A5 c5 h.f5 e _ ?s1 HC.out HE.out).mono ?_); (case s1 => exact Kd.C_below HR.out HI.out.below); rintro e' w' ⟨rfl, hb⟩; have HI2 := Aside0.mk (HI.out.then hb); clear hb HI x0 x1 x2 x3 x4 x5; have HI := HI2; clear HI2; obtain ⟨x0, x1, x2, x3, x4, x5⟩ := HI.out.cells)
    go_ret3
    exact ⟨rfl, HI.out.below⟩
  case pos =>
    rw [if_pos he0] at hf
    have b0 : (e != 0) = false := bne_eq_false_iff_eq.mpr he0
    clear he0
    obtain ⟨s, hs, hf⟩ := Option.bind_eq_some_iff.mp hf
    obtain ⟨want, hn, hf⟩ := Option.bind_eq_some_iff.mp hf
    have HS := Aside0.mk hs
    have HN := Aside0.mk hn
    have HF := Aside0.mk hf
    clear hs hn hf
    go_upto_region 5 with (first | (go_at_call 56; (with_reducible refine (selvageref10_Valid.calls k h.f0 h.f1 h.f2 h.f3 h.f4 A5 c5 h.f5 e _ ?s1 HC.out HE.out).mono ?_); (case s1 => exact Kd.C_below HR.out HI.out.below); rintro e' w' ⟨rfl, hb⟩; have HI2 := Aside0.mk (HI.out.then hb); clear hb HI x0 x1 x2 x3 x4 x5; have HI := HI2; clear HI2; obtain ⟨x0, x1, x2, x3, x4, x5⟩ := HI.out.cells) | (go_at_call 60; (with_reducible refine (selvageref17_Stated.calls h.f0 h.f1 h.f2 h.f3 h.f4 A5 c5 h.f5 s _ ?s1 HC.out HS.out).mono ?_); (case s1 => exact Kd.C_below HR.out HI.out.below); rintro e' w' ⟨rfl, hb⟩; have HI2 := Aside0.mk (HI.out.then hb); clear hb HI x0 x1 x2 x3 x4 x5; have HI := HI2; clear HI2; obtain ⟨x0, x1, x2, x3, x4, x5⟩ := HI.out.cells) | (go_at_call 70; (with_reducible refine (selvageref17_add.calls k s off want _ HN.out).mono ?_); rintro e' w' ⟨rfl, hd⟩; have hb := hd.below; clear hd; have HI2 := Aside0.mk (HI.out.then hb); clear hb HI x0 x1 x2 x3 x4 x5; have HI := HI2; clear HI2; obtain ⟨x0, x1, x2, x3, x4, x5⟩ := HI.out.cells))
    clear b0
    go_wp2
    go_loopg [14] k (fun kq v14 w' => ∃ (f : Int), v14 = .int .i64 f ∧ Aside0 (refFindL k old h (atL0 frm) want fuzz kq f = some (r1, r2, r3)) ∧ Aside0 (BoxIn w A5 c5 h w.heap.size w'))
    case atStart => exact ⟨0, rfl, HF, HI⟩
    case round =>
      clear HI HF x0 x1 x2 x3 x4 x5
      obtain ⟨f, rfl, H, HI⟩ := hrel
      have H1 := H.out
      clear H
      cases gk with
      | zero => simp [refFindL] at H1
      | succ gk2 =>
      have HK : Aside0 (gk2 < gk2 + 1) := ⟨by omega⟩
      simp only [refFindL] at H1
      obtain ⟨x0, x1, x2, x3, x4, x5⟩ := HI.out.cells
      by_cases t1 : f ≤ atM3 fuzz
      · rw [if_pos t1] at H1
        have b1 : decide (f ≤ atM3 fuzz) = true := decide_eq_true t1
        clear t1
        obtain ⟨⟨rows, kk⟩, hx, H1⟩ := Option.bind_eq_some_iff.mp H1
        obtain ⟨l, hy, H1⟩ := Option.bind_eq_some_iff.mp H1
        obtain ⟨⟨z1, z2⟩, hz, H1⟩ := Option.bind_eq_some_iff.mp H1
        have HX0 := Aside0.mk hx
        have HY0 := Aside0.mk hy
        have HZ0 : Aside0 (refP k old l kk want k (minF (atL0 frm) (wrap64 ((old.length : Int) + 1))) 0 false = some (z1, z2)) := ⟨hz⟩
        have HQ := Aside0.mk H1
        clear hx hy hz H1
        go_upto_region 10 with (first | (go_at_call 58; (with_reducible refine (refLeft.calls k h A5 c5 f rows kk _ ?s1 HC.out HX0.out).mono ?_); (case s1 => exact Kd.C_below HR.out HI.out.below); rintro e' w' ⟨A', c', rfl, hrr, hrc, hb⟩; have HRR := Aside0.mk hrr; have HRC := Aside0.mk hrc; clear hrr hrc; have HI2 := Aside0.mk (HI.out.then hb); clear hb HI x0 x1 x2 x3 x4 x5; have HI := HI2; clear HI2; obtain ⟨x0, x1, x2, x3, x4, x5⟩ := HI.out.cells) | (go_at_call 59; (with_reducible refine (selvageref17_side.calls k A' c' rows 3 l _ HRR.out HRC.out HY0.out).mono ?_); rintro e' w' ⟨v0, rfl, ho0, hb⟩; obtain ⟨A9, c9, rfl⟩ := own_slice (Kd.own_of_R ho0); have HO9 := Aside0.mk (Kd.R_reads' ho0).2; clear ho0; have HI2 := Aside0.mk (HI.out.then hb); clear hb HI x0 x1 x2 x3 x4 x5; have HI := HI2; clear HI2; obtain ⟨x0, x1, x2, x3, x4, x5⟩ := HI.out.cells))
        clear HRR HRC x0 x1 x2 x3 x4 x5
        go_wp2
        obtain ⟨wo, rfl⟩ : ∃ wo : World, wo = wr := ⟨_, rfl⟩
        go_loopg [18, 19, 20] k (fun kq v18 v19 v20 w' => ∃ (p best : Int) (found : Bool), v18 = .int .i64 best ∧ v19 = .bool found ∧ v20 = .int .i64 p ∧ Aside0 (refP k old l kk want kq p best found = some (z1, z2)) ∧ Aside0 (BoxIn w A5 c5 h w.heap.size w') ∧ Aside0 (l.length ≤ c9 ∧ Kd.C Kd.string w' A9 l.length l))
        case atStart => exact ⟨_, 0, false, rfl, rfl, rfl, HZ0, HI, HO9⟩
        case round =>
          clear HI HO9 HZ0
          obtain ⟨p, best, found, rfl, rfl, rfl, H, HI, HO9⟩ := hrel
          have H1 := H.out
          clear H
          cases gk with
          | zero => simp [refP] at H1
          | succ gk3 =>
          have HK3 : Aside0 (gk3 < gk3 + 1) := ⟨by omega⟩
          simp only [refP] at H1
          by_cases t2 : wrap64 (p + (l.length : Int)) ≤ old.length
          · rw [if_pos t2] at H1
            have b2 : decide (wrap64 (p + (l.length : Int)) ≤ (old.length : Int)) = true := decide_eq_true t2
            clear t2
            obtain ⟨t, ht, H1⟩ := Option.bind_eq_some_iff.mp H1
            have HT := Aside0.mk ht
            clear ht
            cases t with
            | false =>
              rw [if_neg (by simp)] at H1
              have H2 := Aside0.mk H1
              clear H1
              go_wp2_with (go_at_call 71; (with_reducible refine (selvageref17_at.calls k Ao co old p A9 c9 l false _ ?s1 HCO.out HO9.out.2 HO9.out.1 HT.out).mono ?_); (case s1 => exact Kd.C_below HRO.out HI.out.below); rintro e' w' ⟨rfl, hd⟩; have hb := hd.below; have HI2 := Aside0.mk (HI.out.then hb); have HO2 := Aside0.mk (And.intro HO9.out.1 (Kd.C_below HO9.out.2 hb)); clear hd hb HI HO9; have HI := HI2; have HO9 := HO2; clear HI2 HO2)
              go_roundg gk3
              case measure => have := HK3.out; omega
              case rel => exact ⟨_, _, _, rfl, rfl, rfl, H2, HI, HO9⟩
            | true =>
              rw [if_pos rfl] at H1
              cases found with
              | false =>
                rw [if_neg (by simp)] at H1
                have H2 := Aside0.mk H1
                clear H1
                go_wp2_with (go_at_call 71; (with_reducible refine (selvageref17_at.calls k Ao co old p A9 c9 l true _ ?s1 HCO.out HO9.out.2 HO9.out.1 HT.out).mono ?_); (case s1 => exact Kd.C_below HRO.out HI.out.below); rintro e' w' ⟨rfl, hd⟩; have hb := hd.below; have HI2 := Aside0.mk (HI.out.then hb); have HO2 := Aside0.mk (And.intro HO9.out.1 (Kd.C_below HO9.out.2 hb)); clear hd hb HI HO9; have HI := HI2; have HO9 := HO2; clear HI2 HO2)
                go_roundg gk3
                case measure => have := HK3.out; omega
                case rel => exact ⟨_, _, _, rfl, rfl, rfl, H2, HI, HO9⟩
              | true =>
                rw [if_pos rfl] at H1
                obtain ⟨x, hx, H1⟩ := Option.bind_eq_some_iff.mp H1
                obtain ⟨y, hy, H1⟩ := Option.bind_eq_some_iff.mp H1
                have HX := Aside0.mk hx
                have HY := Aside0.mk hy
                clear hx hy
                by_cases t3 : x < y
                · rw [if_pos t3] at H1
                  have b3 : decide (x < y) = true := decide_eq_true t3
                  have H2 := Aside0.mk H1
                  clear t3 H1
                  go_wp2_with (first | (go_at_call 71; (with_reducible refine (selvageref17_at.calls k Ao co old p A9 c9 l true _ ?s1 HCO.out HO9.out.2 HO9.out.1 HT.out).mono ?_); (case s1 => exact Kd.C_below HRO.out HI.out.below); rintro e' w' ⟨rfl, hd⟩; have hb := hd.below; have HI2 := Aside0.mk (HI.out.then hb); have HO2 := Aside0.mk (And.intro HO9.out.1 (Kd.C_below HO9.out.2 hb)); clear hd hb HI HO9; have HI := HI2; have HO9 := HO2; clear HI2 HO2) | (go_at_call 72; (with_reducible refine (selvageref17_far.calls (wrap64 (p - kk)) want x _ HX.out).mono ?_); rintro e' w' ⟨rfl, hd⟩; have hb := hd.below; have HI2 := Aside0.mk (HI.out.then hb); have HO2 := Aside0.mk (And.intro HO9.out.1 (Kd.C_below HO9.out.2 hb)); clear hd hb HI HO9; have HI := HI2; have HO9 := HO2; clear HI2 HO2) | (go_at_call 72; (with_reducible refine (selvageref17_far.calls best want y _ HY.out).mono ?_); rintro e' w' ⟨rfl, hd⟩; have hb := hd.below; have HI2 := Aside0.mk (HI.out.then hb); have HO2 := Aside0.mk (And.intro HO9.out.1 (Kd.C_below HO9.out.2 hb)); clear hd hb HI HO9; have HI := HI2; have HO9 := HO2; clear HI2 HO2))
                  go_roundg gk3
                  case measure => have := HK3.out; omega
                  case rel => exact ⟨_, _, _, rfl, rfl, rfl, H2, HI, HO9⟩
                · rw [if_neg t3] at H1
                  have b3 : decide (x < y) = false := decide_eq_false t3
                  have H2 := Aside0.mk H1
                  clear t3 H1
                  go_wp2_with (first | (go_at_call 71; (with_reducible refine (selvageref17_at.calls k Ao co old p A9 c9 l true _ ?s1 HCO.out HO9.out.2 HO9.out.1 HT.out).mono ?_); (case s1 => exact Kd.C_below HRO.out HI.out.below); rintro e' w' ⟨rfl, hd⟩; have hb := hd.below; have HI2 := Aside0.mk (HI.out.then hb); have HO2 := Aside0.mk (And.intro HO9.out.1 (Kd.C_below HO9.out.2 hb)); clear hd hb HI HO9; have HI := HI2; have HO9 := HO2; clear HI2 HO2) | (go_at_call 72; (with_reducible refine (selvageref17_far.calls (wrap64 (p - kk)) want x _ HX.out).mono ?_); rintro e' w' ⟨rfl, hd⟩; have hb := hd.below; have HI2 := Aside0.mk (HI.out.then hb); have HO2 := Aside0.mk (And.intro HO9.out.1 (Kd.C_below HO9.out.2 hb)); clear hd hb HI HO9; have HI := HI2; have HO9 := HO2; clear HI2 HO2) | (go_at_call 72; (with_reducible refine (selvageref17_far.calls best want y _ HY.out).mono ?_); rintro e' w' ⟨rfl, hd⟩; have hb := hd.below; have HI2 := Aside0.mk (HI.out.then hb); have HO2 := Aside0.mk (And.intro HO9.out.1 (Kd.C_below HO9.out.2 hb)); clear hd hb HI HO9; have HI := HI2; have HO9 := HO2; clear HI2 HO2))
                  go_roundg gk3
                  case measure => have := HK3.out; omega
                  case rel => exact ⟨_, _, _, rfl, rfl, rfl, H2, HI, HO9⟩
          · rw [if_neg t2] at H1
            have b2 : decide (wrap64 (p + (l.length : Int)) ≤ (old.length : Int)) = false := decide_eq_false t2
            clear t2
            simp only [Option.some.injEq, Prod.mk.injEq] at H1
            obtain ⟨rfl, rfl⟩ := H1
            have H1 := HQ.out
            cases found with
            | true =>
              rw [if_pos rfl] at H1
              simp only [Option.some.injEq, Prod.mk.injEq] at H1
              obtain ⟨rfl, rfl, rfl⟩ := H1
              go_wp2
              go_ret3
              exact ⟨rfl, HI.out.below⟩
            | false =>
              rw [if_neg (by simp)] at H1
              have H2 := Aside0.mk H1
              clear H1
              go_wp2
              go_roundg gk2
              case measure => have := HK.out; omega
              case rel => exact ⟨_, rfl, H2, HI⟩
      · rw [if_neg t1] at H1
        have b1 : decide (f ≤ atM3 fuzz) = false := decide_eq_false t1
        clear t1
        simp only [Option.some.injEq, Prod.mk.injEq] at H1
        obtain ⟨rfl, rfl, rfl⟩ := H1
        go_wp2
        go_ret3
        exact ⟨rfl, HI.out.below⟩
end Go.Proofs.Ytkoagpnoaibdjaa.Ext
