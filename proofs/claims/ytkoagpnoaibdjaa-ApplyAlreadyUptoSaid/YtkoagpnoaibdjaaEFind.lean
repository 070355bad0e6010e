/-
  apply.Find; walked by hand.
-/
import Derived.Test.YtkoagpnoaibdjaaENear
import Derived.Test.YtkoagpnoaibdjaaPp6
namespace Go.Proofs.Ytkoagpnoaibdjaa.Ext
open Go.RowKit Go.Proofs.Ytkoagpnoaibdjaa.Pp Go.Proofs.YtkoagpnoaibdjaaW.PrintWords Go.Proofs.YtkoagpnoaibdjaaW.PrintLast Go.Proofs.YtkoagpnoaibdjaaW.PrintMore
set_option linter.unusedVariables false
set_option linter.unusedSimpArgs false
attribute [local go_sem] max_two min_two
def atMost3 (f : Int) : Int := if 3 < f then 3 else f
def atLeast0 (f : Int) : Int := if f < 0 then 0 else f
def findL (k : Nat) (old : List ByteArray) (rows : List S72) (frm near fuzz : Int) : Nat → Int → Option (Int × Int × Bool)
  | 0, _ => none
  | g + 1, f =>
    if f ≤ atMost3 fuzz then
      (leftF rows f).bind fun x => (apply_sides.f k x.1).bind fun y =>
        if wrap64 ((old.length : Int) - (y.1.length : Int)) < frm then findL k old rows frm near fuzz g (wrap64 (f + 1))
        else (nearF (matchF k y.1 old x.2) k near (wrap64 (frm - x.2)) (wrap64 (wrap64 ((old.length : Int) - (y.1.length : Int)) - x.2))).bind fun z =>
          if z.2 = true then some (z.1, f, true) else findL k old rows frm near fuzz g (wrap64 (f + 1))
    else some (0, 0, false)
theorem findL.mono (old : List ByteArray) (rows : List S72) (frm near fuzz : Int) (k : Nat) : ∀ (g : Nat) (f : Int), LeO (findL k old rows frm near fuzz g f) (findL (k + 1) old rows frm near fuzz (g + 1) f)
  | 0, _ => LeO.none _
  | g + 1, f => by
    have ih := findL.mono old rows frm near fuzz k g
    unfold findL
    refine LeO.ite (LeO.bind (LeO.refl _) fun x => LeO.bind (apply_sides.mono _ _) fun y => LeO.ite (ih _) (LeO.bind ?_ fun z => LeO.ite (LeO.refl _) (ih _))) (LeO.refl _)
    unfold nearF
    exact nearL.mono (fun q => matchF.mono _ _ _ _ _) _ _ _ _ _ _
def apply_Find.g (k : Nat) (old : List ByteArray) (h : S41) (frm off fuzz : Int) : Option (Int × Int × Bool) :=
  if old.length ≤ 4611686018427387904 then
    (validF h).bind fun e => if e.isSome = true then some (0, 0, false) else
      (apply_stated.f h.f0 h.f1 h.f2 h.f3 h.f4 h.f5).bind fun s => (apply_sum.f k s off).bind fun near => findL k old h.f5 (atLeast0 frm) near fuzz k 0
  else none
theorem apply_Find.gmono (old : List ByteArray) (h : S41) (frm off fuzz : Int) (k : Nat) : LeO (apply_Find.g k old h frm off fuzz) (apply_Find.g (k + 1) old h frm off fuzz) := by
  unfold apply_Find.g
  exact LeO.ite (LeO.bind (LeO.refl _) fun _ => LeO.ite (LeO.refl _) (LeO.bind (LeO.refl _) fun _ => LeO.bind (apply_sum.mono _ _ _) fun _ => findL.mono _ _ _ _ _ _ _ _)) (LeO.refl _)
structure FindIn (w0 : World) (Ao : Option Addr) (co : Nat) (old : List ByteArray) (A5 : Option Addr) (c5 : Nat) (h : S41) (g5 g6 : Nat) (w : World) : Prop where
  below : Below w0.heap.size w0 w
  b5 : w.heap[g5]? = some (.cells #[.slice Ao old.length co] 23 (0, 0))
  b6 : w.heap[g6]? = some (.cells #[.int .i64 h.f0, .int .i64 h.f1, .int .i64 h.f2, .int .i64 h.f3, .string h.f4, .slice A5 h.f5.length c5] 41 (0, 0))
theorem FindIn.then {w0 w w' : World} {Ao : Option Addr} {co : Nat} {old : List ByteArray} {A5 : Option Addr} {c5 : Nat} {h : S41} {g5 g6 : Nat} (i : FindIn w0 Ao co old A5 c5 h g5 g6 w) (k : Below w.heap.size w w') : FindIn w0 Ao co old A5 c5 h g5 g6 w' :=
  ⟨below_step i.below k, blk_below i.b5 k, blk_below i.b6 k⟩
theorem FindIn.store {w0 w : World} {Ao : Option Addr} {co : Nat} {old : List ByteArray} {A5 : Option Addr} {c5 : Nat} {h : S41} {g5 g6 : Nat} (i : FindIn w0 Ao co old A5 c5 h g5 g6 w) (gb : Nat) (n : g5 ≠ gb ∧ g6 ≠ gb ∧ w0.heap.size ≤ gb) (j : Nat) (v : Value) :
    FindIn w0 Ao co old A5 c5 h g5 g6 (w.setCell ⟨gb, j, none⟩ v) := ⟨below_set i.below n.2.2, blk_far i.b5 n.1 _, blk_far i.b6 n.2.1 _⟩
theorem FindIn.apart {w0 w : World} {Ao : Option Addr} {co : Nat} {old : List ByteArray} {A5 : Option Addr} {c5 : Nat} {h : S41} {g5 g6 : Nat} (i : FindIn w0 Ao co old A5 c5 h g5 g6 w) (gb : Nat) (n : gb = w.heap.size) : g5 ≠ gb ∧ g6 ≠ gb ∧ w0.heap.size ≤ gb := by
  have h1 := blk_lt i.b5
  have h2 := blk_lt i.b6
  have h3 := i.below.size
  exact ⟨by omega, by omega, by omega⟩
theorem FindIn.cells {w0 w : World} {Ao : Option Addr} {co : Nat} {old : List ByteArray} {A5 : Option Addr} {c5 : Nat} {h : S41} {g5 g6 : Nat} (i : FindIn w0 Ao co old A5 c5 h g5 g6 w) :
    w.cell? ⟨g5, 0, none⟩ = some (.slice Ao old.length co) ∧ w.cell? ⟨g6, 0, none⟩ = some (.int .i64 h.f0) ∧ w.cell? ⟨g6, 1, none⟩ = some (.int .i64 h.f1) ∧ w.cell? ⟨g6, 2, none⟩ = some (.int .i64 h.f2) ∧
      w.cell? ⟨g6, 3, none⟩ = some (.int .i64 h.f3) ∧ w.cell? ⟨g6, 4, none⟩ = some (.string h.f4) ∧ w.cell? ⟨g6, 5, none⟩ = some (.slice A5 h.f5.length c5) :=
  ⟨(blk_cell i.b5 0).trans rfl, (blk_cell i.b6 0).trans rfl, (blk_cell i.b6 1).trans rfl, (blk_cell i.b6 2).trans rfl, (blk_cell i.b6 3).trans rfl, (blk_cell i.b6 4).trans rfl, (blk_cell i.b6 5).trans rfl⟩
set_option maxHeartbeats 8000000 in
set_option maxRecDepth 100000 in
theorem find.calls (k : Nat) (Ao : Option Addr) (co : Nat) (old : List ByteArray) (h : S41) (A5 : Option Addr) (c5 : Nat) (frm off fuzz : Int) (r1 r2 : Int) (r3 : Bool) (w : World)
    (hro : Kd.C Kd.string w Ao old.length old) (hco : old.length ≤ co) (hr : Kd.C k72 w A5 h.f5.length h.f5) (hc : h.f5.length ≤ c5) (hf : apply_Find.g k old h frm off fuzz = some (r1, r2, r3)) :
    Calls Try.prog 22 #[.slice Ao old.length co, agH A5 c5 h, .int .i64 frm, .int .i64 off, .int .i64 fuzz] w fun e w' => e = .returned (.tuple #[.int .i64 r1, .int .i64 r2, .bool r3]) ∧ Below w.heap.size w w' := by
  have hu41 := Try.underlying41
  unfold apply_Find.g at hf
  split at hf
  case isFalse => cases hf
  rename_i hlen
  obtain ⟨e, he, hf⟩ := Option.bind_eq_some_iff.mp hf
  have HL := Aside0.mk hlen
  have HRO := Aside0.mk hro
  have HCO := Aside0.mk hco
  have HR := Aside0.mk hr
  have HC := Aside0.mk hc
  have HE := Aside0.mk he
  clear hlen hro hco hr hc he
  have hmax : ∀ k k' : IntKind, Builtin.max2 (.int k frm) (.int k' 0) = pure (.int k (atLeast0 frm)) := fun k k' => max2_int k k' frm 0
  have hmin : ∀ k k' : IntKind, Builtin.min2 (.int k fuzz) (.int k' 3) = pure (.int k (atMost3 fuzz)) := fun k k' => min2_int k k' fuzz 3
  go_enter Try.func22, Try.ntmps22
  go_upto_region 1 with (fail)
  have HI : Aside0 (FindIn w Ao co old A5 c5 h w.heap.size (w.heap.size + 1) ((w.alloc (Obj.cells #[.slice Ao old.length co] 23)).alloc (Obj.cells #[.int .i64 h.f0, .int .i64 h.f1, .int .i64 h.f2, .int .i64 h.f3, .string h.f4, .slice A5 h.f5.length c5] 41))) := ⟨by
    refine ⟨below_alloc (below_alloc (Below.refl _ _) _) _, blk_alloc (blk_new _ _) _, ?_⟩
    have := blk_new (w.alloc (Obj.cells #[.slice Ao old.length co] 23)) (Obj.cells #[.int .i64 h.f0, .int .i64 h.f1, .int .i64 h.f2, .int .i64 h.f3, .string h.f4, .slice A5 h.f5.length c5] 41)
    rw [show (w.alloc (Obj.cells #[.slice Ao old.length co] 23)).heap.size = w.heap.size + 1 by simp] at this
    exact this⟩
  generalize ((w.alloc (Obj.cells #[.slice Ao old.length co] 23)).alloc (Obj.cells #[.int .i64 h.f0, .int .i64 h.f1, .int .i64 h.f2, .int .i64 h.f3, .string h.f4, .slice A5 h.f5.length c5] 41)) = W at HI ⊢
  obtain ⟨g5, hg5⟩ : ∃ z, z = w.heap.size := ⟨_, rfl⟩
  obtain ⟨g6, hg6⟩ : ∃ z, z = w.heap.size + 1 := ⟨_, rfl⟩
  have HG := Aside0.mk (And.intro hg5 hg6)
  rw [← hg6, ← hg5] at HI ⊢
  clear hg5 hg6
  obtain ⟨y5, x0, x1, x2, x3, x4, x5⟩ := HI.out.cells
  cases e with
  | some e =>
    rw [if_pos (show (some e).isSome = true from rfl)] at hf
    simp only [Option.some.injEq, Prod.mk.injEq] at hf
    obtain ⟨rfl, rfl, rfl⟩ := hf
    go_wp2_with (go_at_call 26; (with_reducible refine (hunks_Valid.calls h.f0 h.f1 h.f2 h.f3 h.f4 A5 c5 h.f5 (some e) _ ?s1 ?s2 ?s3).mono ?_); (case s1 => exact Kd.C_below HR.out HI.out.below); (case s2 => exact HC.out); (case s3 => exact HE.out); rintro e' w' ⟨rfl, hb⟩; have HI2 := Aside0.mk (HI.out.then hb); clear hb; simp only [errW_some])
    go_ret3
    exact ⟨rfl, HI2.out.below⟩
  | none =>
    rw [if_neg (by simp)] at hf
    obtain ⟨s, hs, hf⟩ := Option.bind_eq_some_iff.mp hf
    obtain ⟨near, hn, hf⟩ := Option.bind_eq_some_iff.mp hf
    have HS := Aside0.mk hs
    have HN := Aside0.mk hn
    have HF := Aside0.mk hf
    clear hs hn hf
    go_upto_region 3 with (go_at_call 26; (with_reducible refine (hunks_Valid.calls h.f0 h.f1 h.f2 h.f3 h.f4 A5 c5 h.f5 none _ ?s1 ?s2 ?s3).mono ?_); (case s1 => exact Kd.C_below HR.out HI.out.below); (case s2 => exact HC.out); (case s3 => exact HE.out); rintro e' w' ⟨rfl, hb⟩; have HI2 := Aside0.mk (HI.out.then hb); clear hb HI y5 x0 x1 x2 x3 x4 x5; have HI := HI2; clear HI2; obtain ⟨y5, x0, x1, x2, x3, x4, x5⟩ := HI.out.cells; simp only [errW_none])
    go_upto_region 5 with (first | (go_at_call 29; (with_reducible refine (apply_stated.calls h.f0 h.f1 h.f2 h.f3 h.f4 A5 c5 h.f5 s _ ?s1 ?s2 ?s3).mono ?_); (case s1 => exact Kd.C_below HR.out HI.out.below); (case s2 => exact HC.out); (case s3 => exact HS.out); rintro e' w' ⟨rfl, hb⟩; have HI2 := Aside0.mk (HI.out.then hb); clear hb HI y5 x0 x1 x2 x3 x4 x5; have HI := HI2; clear HI2; obtain ⟨y5, x0, x1, x2, x3, x4, x5⟩ := HI.out.cells) | (go_at_call 41; (with_reducible refine (apply_sum.calls k s off near _ HN.out).mono ?_); rintro e' w' ⟨rfl, hb⟩; have HI2 := Aside0.mk (HI.out.then hb.below); clear hb HI y5 x0 x1 x2 x3 x4 x5; have HI := HI2; clear HI2; obtain ⟨y5, x0, x1, x2, x3, x4, x5⟩ := HI.out.cells))
    go_wp2
    go_loopg [14] k (fun kq v14 w' => ∃ (f : Int), v14 = .int .i64 f ∧ Aside0 (findL k old h.f5 (atLeast0 frm) near fuzz kq f = some (r1, r2, r3)) ∧ Aside0 (FindIn w Ao co old A5 c5 h g5 g6 w'))
    case atStart => exact ⟨0, rfl, HF, HI⟩
    case round =>
      clear HI HF y5 x0 x1 x2 x3 x4 x5
      obtain ⟨f, rfl, H, HI⟩ := hrel
      have H1 := H.out
      clear H
      cases gk with
      | zero => simp [findL] at H1
      | succ gk2 =>
      have HK : Aside0 (gk2 < gk2 + 1) := ⟨by omega⟩
      simp only [findL] at H1
      obtain ⟨y5, x0, x1, x2, x3, x4, x5⟩ := HI.out.cells
      by_cases t1 : f ≤ atMost3 fuzz
      · rw [if_pos t1] at H1
        have b1 : decide (f ≤ atMost3 fuzz) = true := decide_eq_true t1
        clear t1
        obtain ⟨⟨rows, kk⟩, hx, H1⟩ := Option.bind_eq_some_iff.mp H1
        obtain ⟨⟨l, l2⟩, hy, H1⟩ := Option.bind_eq_some_iff.mp H1
        have HX0 := Aside0.mk hx
        have HY0 := Aside0.mk hy
        simp only [] at H1
        have H2 := Aside0.mk H1
        clear hx hy H1
        go_upto_region 9 with (first | (go_at_call 27; (with_reducible refine (left.calls h A5 c5 f rows kk _ ?s1 ?s2 HX0.out).mono ?_); (case s1 => exact Kd.C_below HR.out HI.out.below); (case s2 => exact HC.out); rintro e' w' ⟨A', c', rfl, hrr, hrc, hb⟩; have HRR := Aside0.mk hrr; have HRC := Aside0.mk hrc; have HI2 := Aside0.mk (HI.out.then hb); clear hb hrr hrc HI y5 x0 x1 x2 x3 x4 x5; have HI := HI2; clear HI2; obtain ⟨y5, x0, x1, x2, x3, x4, x5⟩ := HI.out.cells) | ((with_reducible refine gate_dst (N := 16) rfl ?_); refine box_event ?hg (N := 16) ?hd (cs := #[.int .i64 0]) (t := 3) ?hr ?_; (case hd => rfl); (case hg => rfl); (case hr => first | (go_simp; done) | (go_simp; rfl)); intro gb16 hg wx hbox hb; have NG16 := Aside0.mk (HI.out.apart gb16 hg); have HGB16 := Aside0.mk hg; have HX := Aside0.mk (HI.out.then hb); have BX16 := Aside0.mk hbox; have _ := HRR; clear HI y5 x0 x1 x2 x3 x4 x5; have HI := HX; clear HX; have HBX16 := Aside0.mk hb; clear hb hg; have cz16 := (blk_cell hbox 0).trans rfl; have fz16 := blk_frozen hbox 0; clear hbox))
        have BK16 : Aside0 ((wx.setCell ⟨gb16, 0, none⟩ (.int .i64 kk)).heap[gb16]? = some (.cells #[.int .i64 kk] 3 (0, 0))) := ⟨blk_set BX16.out 0 _⟩
        have HI2 : Aside0 (FindIn w Ao co old A5 c5 h g5 g6 (wx.setCell ⟨gb16, 0, none⟩ (.int .i64 kk))) := ⟨HI.out.store gb16 NG16.out 0 _⟩
        have HRR2 : Aside0 (Kd.C k72 (wx.setCell ⟨gb16, 0, none⟩ (.int .i64 kk)) A' rows.length rows) := ⟨Kd.C_below HRR.out (below_set HBX16.out (Nat.le_of_eq HGB16.out.symm))⟩
        clear HI HRR HBX16 HGB16 NG16 BX16 cz16 fz16
        have HI := HI2
        have HRR := HRR2
        clear HI2 HRR2
        generalize wx.setCell ⟨gb16, 0, none⟩ (.int .i64 kk) = W2 at HI HRR BK16 ⊢
        obtain ⟨y5, x0, x1, x2, x3, x4, x5⟩ := HI.out.cells
        go_upto_region 10 with (first | (go_at_call 28; (with_reducible refine (apply_sides.calls k A' c' rows l l2 _ HRR.out HRC.out HY0.out).mono ?_); rintro e' w' ⟨v0, v1, rfl, ho0, ho1, hb⟩; obtain ⟨A9, c9, rfl⟩ := own_slice (Kd.own_of_R ho0); obtain ⟨A8, c8, rfl⟩ := own_slice (Kd.own_of_R ho1); have HO9 := Aside0.mk (Kd.R_reads' ho0).2; have HI2 := Aside0.mk (HI.out.then hb); have BK2 := Aside0.mk (blk_below BK16.out hb); clear hb ho0 ho1 HI BK16 y5 x0 x1 x2 x3 x4 x5; have HI := HI2; have BK16 := BK2; clear HI2 BK2; obtain ⟨y5, x0, x1, x2, x3, x4, x5⟩ := HI.out.cells) | ((with_reducible refine gate_dst (N := 17) rfl ?_); refine box_event ?hg (N := 17) ?hd (cs := #[.slice none 0 0]) (t := 23) ?hr ?_; (case hd => rfl); (case hg => rfl); (case hr => first | (go_simp; done) | (go_simp; rfl)); intro gb17 hg wx hbox hb; have NG17 := Aside0.mk (HI.out.apart gb17 hg); have HGB17 := Aside0.mk hg; have HX := Aside0.mk (HI.out.then hb); have BX17 := Aside0.mk hbox; have _ := HRR; clear HI y5 x0 x1 x2 x3 x4 x5; have HI := HX; clear HX; have HBX17 := Aside0.mk hb; clear hb hg; have cz17 := (blk_cell hbox 0).trans rfl; have fz17 := blk_frozen hbox 0; clear hbox))
        have BK17 : Aside0 ((wx.setCell ⟨gb17, 0, none⟩ (.slice A9 l.length c9)).heap[gb17]? = some (.cells #[.slice A9 l.length c9] 23 (0, 0))) := ⟨blk_set BX17.out 0 _⟩
        have HI2 : Aside0 (FindIn w Ao co old A5 c5 h g5 g6 (wx.setCell ⟨gb17, 0, none⟩ (.slice A9 l.length c9))) := ⟨HI.out.store gb17 NG17.out 0 _⟩
        have HO2 : Aside0 (l.length ≤ c9 ∧ Kd.C Kd.string (wx.setCell ⟨gb17, 0, none⟩ (.slice A9 l.length c9)) A9 l.length l) := ⟨HO9.out.1, Kd.C_below HO9.out.2 (below_set HBX17.out (Nat.le_of_eq HGB17.out.symm))⟩
        have BK16b : Aside0 ((wx.setCell ⟨gb17, 0, none⟩ (.slice A9 l.length c9)).heap[gb16]? = some (.cells #[.int .i64 kk] 3 (0, 0))) := ⟨blk_far (blk_below BK16.out HBX17.out) (show gb16 ≠ gb17 by have := blk_lt BK16.out; have := HGB17.out; omega) _⟩
        clear HI HRR HBX17 HGB17 NG17 BX17 cz17 fz17 HO9 BK16
        have HI := HI2
        have HO9 := HO2
        have BK16 := BK16b
        clear HI2 HO2 BK16b
        generalize wx.setCell ⟨gb17, 0, none⟩ (.slice A9 l.length c9) = W3 at HI HO9 BK16 BK17 ⊢
        obtain ⟨y5, x0, x1, x2, x3, x4, x5⟩ := HI.out.cells
        have y16 := (blk_cell BK16.out 0).trans rfl
        have y17 := (blk_cell BK17.out 0).trans rfl
        have H1 := H2.out
        clear H2
        by_cases t2 : wrap64 ((old.length : Int) - (l.length : Int)) < atLeast0 frm
        · rw [if_pos t2] at H1
          have b2 : decide (wrap64 ((old.length : Int) - (l.length : Int)) < atLeast0 frm) = true := decide_eq_true t2
          have H2 := Aside0.mk H1
          clear t2 H1
          go_wp2
          go_roundg gk2
          case measure => have := HK.out; omega
          case rel => exact ⟨_, rfl, H2, HI⟩
        · rw [if_neg t2] at H1
          have b2 : decide (wrap64 ((old.length : Int) - (l.length : Int)) < atLeast0 frm) = false := decide_eq_false t2
          clear t2
          obtain ⟨⟨z1, z2⟩, hz, H1⟩ := Option.bind_eq_some_iff.mp H1
          have HZ : Aside0 (nearF (matchF k l old kk) k near (wrap64 (atLeast0 frm - kk)) (wrap64 (wrap64 ((old.length : Int) - (l.length : Int)) - kk)) = some (z1, z2)) := ⟨hz⟩
          clear hz
          cases z2 with
          | true =>
            rw [if_pos rfl] at H1
            simp only [Option.some.injEq, Prod.mk.injEq] at H1
            obtain ⟨rfl, rfl, rfl⟩ := H1
            go_wp2_with (go_at_call 42; (with_reducible refine (Go.Proofs.Ytkoagpnoaibdjaa.Ext.near.calls (matchF k l old kk) k _ _ _ near _ _ z1 true _ ?s1 HZ.out).mono ?_); (case s1 => exact fun q r W hd hq => match.calls k gb17 g5 gb16 A9 Ao c9 co l old kk q r W (blk_below BK17.out hd.below) (blk_below HI.out.b5 hd.below) (blk_below BK16.out hd.below) (Kd.C_below HO9.out.2 hd.below) HO9.out.1 (Kd.C_below HRO.out (below_step HI.out.below hd.below)) HCO.out hq); rintro e' w' ⟨rfl, hd⟩; have HI2 := Aside0.mk (HI.out.then hd.below); clear hd)
            go_ret3
            exact ⟨rfl, HI2.out.below⟩
          | false =>
            rw [if_neg (by simp)] at H1
            have H2 := Aside0.mk H1
            clear H1
            go_wp2_with (go_at_call 42; (with_reducible refine (Go.Proofs.Ytkoagpnoaibdjaa.Ext.near.calls (matchF k l old kk) k _ _ _ near _ _ z1 false _ ?s1 HZ.out).mono ?_); (case s1 => exact fun q r W hd hq => match.calls k gb17 g5 gb16 A9 Ao c9 co l old kk q r W (blk_below BK17.out hd.below) (blk_below HI.out.b5 hd.below) (blk_below BK16.out hd.below) (Kd.C_below HO9.out.2 hd.below) HO9.out.1 (Kd.C_below HRO.out (below_step HI.out.below hd.below)) HCO.out hq); rintro e' w' ⟨rfl, hd⟩; have HI2 := Aside0.mk (HI.out.then hd.below); clear hd)
            go_roundg gk2
            case measure => have := HK.out; omega
            case rel => exact ⟨_, rfl, H2, HI2⟩
      · rw [if_neg t1] at H1
        have b1 : decide (f ≤ atMost3 fuzz) = false := decide_eq_false t1
        clear t1
        simp only [Option.some.injEq, Prod.mk.injEq] at H1
        obtain ⟨rfl, rfl, rfl⟩ := H1
        go_wp2
        go_ret3
        exact ⟨rfl, HI.out.below⟩
end Go.Proofs.Ytkoagpnoaibdjaa.Ext
