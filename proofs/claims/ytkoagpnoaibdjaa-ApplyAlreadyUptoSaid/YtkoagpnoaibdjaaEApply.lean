/-
  apply.Apply; walked by hand.
-/
import Derived.Test.YtkoagpnoaibdjaaEFind
import Derived.Test.YtkoagpnoaibdjaaPp8
namespace Go.Proofs.Ytkoagpnoaibdjaa.Ext
open Go.RowKit Go.Proofs.Ytkoagpnoaibdjaa.Pp Go.Proofs.YtkoagpnoaibdjaaW.PrintWords Go.Proofs.YtkoagpnoaibdjaaW.PrintLast Go.Proofs.YtkoagpnoaibdjaaW.PrintMore
set_option linter.unusedVariables false
set_option linter.unusedSimpArgs false
def applyL (k : Nat) (old : List ByteArray) (fuzz : Int) : List S41 → Nat → Int → Int → List ByteArray → List S45 → List Int → Option (List ByteArray × List S45 × List Int × Int)
  | [], _, frm, _, out, hits, rej => some (out, hits, rej, frm)
  | h :: t, i, frm, off, out, hits, rej =>
    (apply_Find.g k old h frm off fuzz).bind fun z =>
      if z.2.2 = true then
        (leftF h.f5 z.2.1).bind fun x => (apply_sides.f k x.1).bind fun y => (apply_stated.f h.f0 h.f1 h.f2 h.f3 h.f4 h.f5).bind fun s =>
          if (0 ≤ frm ∧ frm ≤ wrap64 (z.1 + x.2) ∧ wrap64 (z.1 + x.2) ≤ old.length) ∧ ((out ++ cutL old frm (wrap64 (z.1 + x.2))) ++ y.2).length ≤ 8796093022208 ∧ hits.length < 4398046511104 then
            applyL k old fuzz t (i + 1) (wrap64 (wrap64 (z.1 + x.2) + (y.1.length : Int))) (wrap64 (z.1 - s)) ((out ++ cutL old frm (wrap64 (z.1 + x.2))) ++ y.2)
              (hits ++ [⟨(i : Int), wrap64 (wrap64 (z.1 + 1) + wrap64 (((out ++ cutL old frm (wrap64 (z.1 + x.2))).length : Int) - wrap64 (z.1 + x.2))), wrap64 (z.1 - s), z.2.1⟩]) rej
          else none
      else if rej.length < 17592186044416 then applyL k old fuzz t (i + 1) frm off out hits (rej ++ [(i : Int)]) else none
theorem applyL.mono (old : List ByteArray) (fuzz : Int) (k : Nat) : ∀ (l : List S41) (i : Nat) (frm off : Int) (out : List ByteArray) (hits : List S45) (rej : List Int), LeO (applyL k old fuzz l i frm off out hits rej) (applyL (k + 1) old fuzz l i frm off out hits rej)
  | [], _, _, _, _, _, _ => LeO.refl _
  | h :: t, i, frm, off, out, hits, rej => by
    unfold applyL
    exact LeO.bind (apply_Find.gmono _ _ _ _ _ _) fun z => LeO.ite (LeO.bind (LeO.refl _) fun x => LeO.bind (apply_sides.mono _ _) fun y => LeO.bind (LeO.refl _) fun s => LeO.ite (applyL.mono _ _ _ _ _ _ _ _ _ _) (LeO.refl _)) (LeO.ite (applyL.mono _ _ _ _ _ _ _ _ _ _) (LeO.refl _))
def apply_Apply.f (k : Nat) (l0 : List ByteArray) (l1 : List S41) (a2 : Int) : Option (List ByteArray × List S45 × List Int × Option Int) :=
  if a2 < 0 then some ([], [], [], some 1) else if 3 < a2 then some ([], [], [], some 1) else
  (lines_Valid.f k l0).bind fun v => if v = true then
    if l1.length ≤ 9223372036854775807 then
      (findBad l1 0).bind fun b => if 0 ≤ b then some ([], [], [], some 100) else
        (applyL k l0 a2 l1 0 0 0 [] [] []).bind fun z =>
          if (0 ≤ z.2.2.2 ∧ z.2.2.2 ≤ l0.length) ∧ (z.1 ++ cutL l0 z.2.2.2 l0.length).length ≤ 8796093022208 then
            (lines_Valid.f k (z.1 ++ cutL l0 z.2.2.2 l0.length)).bind fun v2 => if v2 = true then some (z.1 ++ cutL l0 z.2.2.2 l0.length, z.2.1, z.2.2.1, none) else some ([], [], [], some 130)
          else none
    else none
  else some ([], [], [], some 130)
theorem apply_Apply.mono : ∀ a0 a1 a2 k, LeO (apply_Apply.f k a0 a1 a2) (apply_Apply.f (k + 1) a0 a1 a2) := by
  intro a0 a1 a2 k
  unfold apply_Apply.f
  exact LeO.ite (LeO.refl _) (LeO.ite (LeO.refl _) (LeO.bind (lines_Valid.mono _ _) fun v => LeO.ite (LeO.ite (LeO.bind (LeO.refl _) fun b => LeO.ite (LeO.refl _) (LeO.bind (applyL.mono _ _ _ _ _ _ _ _ _ _) fun z => LeO.ite (LeO.bind (lines_Valid.mono _ _) fun v2 => LeO.refl _) (LeO.refl _))) (LeO.refl _)) (LeO.refl _)))
structure AppIn (w0 : World) (vo vh vr : Value) (out : List ByteArray) (hits : List S45) (rej : List Int) (w : World) : Prop where
  below : Below w0.heap.size w0 w
  o : Kd.R Kd.string 9 w w0.heap.size (fun _ => True) vo out
  h : Kd.R k45 45 w w0.heap.size (fun _ => True) vh hits
  r : Kd.R (Kd.int .i64) 3 w w0.heap.size (fun _ => True) vr rej
structure RoundIn (w0 : World) (vo vh vr : Value) (out : List ByteArray) (hits : List S45) (rej : List Int) (gb : Nat) (A5 : Option Addr) (c5 : Nat) (g : S41) (w : World) : Prop where
  app : AppIn w0 vo vh vr out hits rej w
  b : w.heap[gb]? = some (.cells #[.int .i64 g.f0, .int .i64 g.f1, .int .i64 g.f2, .int .i64 g.f3, .string g.f4, .slice A5 g.f5.length c5] 41 (0, 0))
section
variable {w0 w w1 : World} {vo vh vr v : Value} {out out1 : List ByteArray} {hits hits1 : List S45} {rej rej1 : List Int} {gb : Nat} {A5 : Option Addr} {c5 : Nat} {g : S41}
theorem AppIn.then (i : AppIn w0 vo vh vr out hits rej w) (k : Below w.heap.size w w1) : AppIn w0 vo vh vr out hits rej w1 := ⟨below_step i.below k, Kd.R_below i.o k, Kd.R_below i.h k, Kd.R_below i.r k⟩
theorem AppIn.set (i : AppIn w0 vo vh vr out hits rej w) {cs : Array Value} (ha : w.heap[gb]? = some (.cells cs 41 (0, 0))) (n : w0.heap.size ≤ gb) (j : Nat) (v : Value) : AppIn w0 vo vh vr out hits rej (w.setCell ⟨gb, j, none⟩ v) :=
  ⟨below_set i.below n, Kd.R_set i.o ha (by decide) j v, Kd.R_set i.h ha (by decide) j v, Kd.R_set i.r ha (by decide) j v⟩
theorem AppIn.outs (i : AppIn w0 vo vh vr out hits rej w) (hb : Below w0.heap.size w0 w1) (hg : w.grownBy w1 vo.ownBlock) (ho : Kd.R Kd.string 9 w1 w0.heap.size (fun _ => True) v out1) : AppIn w0 v vh vr out1 hits rej w1 :=
  ⟨hb, ho, Kd.R_over i.h i.o (by decide) hg, Kd.R_over i.r i.o (by decide) hg⟩
theorem AppIn.hitted (i : AppIn w0 vo vh vr out hits rej w) (hb : Below w0.heap.size w0 w1) (hg : w.grownBy w1 vh.ownBlock) (ho : Kd.R k45 45 w1 w0.heap.size (fun _ => True) v hits1) : AppIn w0 vo v vr out hits1 rej w1 :=
  ⟨hb, Kd.R_over i.o i.h (by decide) hg, ho, Kd.R_over i.r i.h (by decide) hg⟩
theorem AppIn.rejected (i : AppIn w0 vo vh vr out hits rej w) (hb : Below w0.heap.size w0 w1) (hg : w.grownBy w1 vr.ownBlock) (ho : Kd.R (Kd.int .i64) 3 w1 w0.heap.size (fun _ => True) v rej1) : AppIn w0 vo vh v out hits rej1 w1 :=
  ⟨hb, Kd.R_over i.o i.r (by decide) hg, Kd.R_over i.h i.r (by decide) hg, ho⟩
theorem RoundIn.then (i : RoundIn w0 vo vh vr out hits rej gb A5 c5 g w) (k : Below w.heap.size w w1) : RoundIn w0 vo vh vr out hits rej gb A5 c5 g w1 := ⟨i.app.then k, blk_below i.b k⟩
theorem RoundIn.outs (i : RoundIn w0 vo vh vr out hits rej gb A5 c5 g w) (hb : Below w0.heap.size w0 w1) (hg : w.grownBy w1 vo.ownBlock) (ho : Kd.R Kd.string 9 w1 w0.heap.size (fun _ => True) v out1) : RoundIn w0 v vh vr out1 hits rej gb A5 c5 g w1 :=
  ⟨i.app.outs hb hg ho, blk_grown i.b hg (Kd.R_ne i.app.o i.b (by decide))⟩
theorem RoundIn.hitted (i : RoundIn w0 vo vh vr out hits rej gb A5 c5 g w) (hb : Below w0.heap.size w0 w1) (hg : w.grownBy w1 vh.ownBlock) (ho : Kd.R k45 45 w1 w0.heap.size (fun _ => True) v hits1) : RoundIn w0 vo v vr out hits1 rej gb A5 c5 g w1 :=
  ⟨i.app.hitted hb hg ho, blk_grown i.b hg (Kd.R_ne i.app.h i.b (by decide))⟩
theorem RoundIn.rejected (i : RoundIn w0 vo vh vr out hits rej gb A5 c5 g w) (hb : Below w0.heap.size w0 w1) (hg : w.grownBy w1 vr.ownBlock) (ho : Kd.R (Kd.int .i64) 3 w1 w0.heap.size (fun _ => True) v rej1) : RoundIn w0 vo vh v out hits rej1 gb A5 c5 g w1 :=
  ⟨i.app.rejected hb hg ho, blk_grown i.b hg (Kd.R_ne i.app.r i.b (by decide))⟩
theorem RoundIn.cells (i : RoundIn w0 vo vh vr out hits rej gb A5 c5 g w) :
    w.cell? ⟨gb, 0, none⟩ = some (.int .i64 g.f0) ∧ w.cell? ⟨gb, 1, none⟩ = some (.int .i64 g.f1) ∧ w.cell? ⟨gb, 2, none⟩ = some (.int .i64 g.f2) ∧
      w.cell? ⟨gb, 3, none⟩ = some (.int .i64 g.f3) ∧ w.cell? ⟨gb, 4, none⟩ = some (.string g.f4) ∧ w.cell? ⟨gb, 5, none⟩ = some (.slice A5 g.f5.length c5) :=
  ⟨(blk_cell i.b 0).trans rfl, (blk_cell i.b 1).trans rfl, (blk_cell i.b 2).trans rfl, (blk_cell i.b 3).trans rfl, (blk_cell i.b 4).trans rfl, (blk_cell i.b 5).trans rfl⟩
end
theorem infoInt : (Try.prog.info? 3).map (fun i => (i.zero, i.size, i.bytes)) = some (some (.int .i64 0), 1, 8) := by kernel_rfl
theorem infoHit : (Try.prog.info? 45).map (fun i => (i.zero, i.size, i.bytes)) = some (some (.agg #[.int .i64 0, .int .i64 0, .int .i64 0, .int .i64 0]), 4, 32) := by kernel_rfl
theorem results_tmp4 {fn : Func} {t u v x : Tmp} (h : fn.results = #[.tmp t, .tmp u, .tmp v, .tmp x]) (tmps : Array Value) (P : Program) (w : World) :
    (results fn tmps).run P w = .ok (.tuple #[tmps.getD t undef, tmps.getD u undef, tmps.getD v undef, tmps.getD x undef]) w := by
  simp [results, h]
theorem cut_rest {α : Type} (k : Kd α) (t e : TypeId) {i : TypeInfo} (ht : Try.prog.underlying t = some (.slice e)) (hi : Try.prog.info? e = some i) (hsz : i.size = k.sz) (A : Option Addr) (c : Nat) (xs : List α) (a : Int) (h0 : 0 ≤ a) (h1 : a ≤ xs.length) (hc : xs.length ≤ c) :
    ∃ A' : Option Addr, (∀ W : World, (Instr.slice t (.slice A xs.length c) (some (.int .i64 a)) none none).run Try.prog W = .ok (.slice A' (cutL xs a xs.length).length (c - a.toNat)) W) ∧
      (∀ w : World, k.C w A xs.length xs → k.C w A' (cutL xs a xs.length).length (cutL xs a xs.length)) ∧ (cutL xs a xs.length).length ≤ c - a.toNat := by
  have hl : (cutL xs a xs.length).length = xs.length - a.toNat := by unfold cutL; rw [List.length_drop, List.length_take]; omega
  refine ⟨if c = a.toNat then A else A.map (·.add (a.toNat * k.sz)), fun W => ?_, fun w h => ?_, by rw [hl]; omega⟩
  · rw [hl]; exact cut_from t e .i64 ht hi k.sz hsz A xs.length c a h0 h1 W
  · exact Kd.C_mid (lo := a.toNat) (hi := (xs.length : Int).toNat) h (by omega) (by omega) hc
set_option maxHeartbeats 16000000 in
set_option maxRecDepth 100000 in
theorem apply_Apply.calls (k : Nat) (A0 : Option Addr) (c0 : Nat) (old : List ByteArray) (A1 : Option Addr) (c1 : Nat) (l1 : List S41) (fuzz : Int) (r1 : List ByteArray) (r2 : List S45) (r3 : List Int) (r4 : Option Int) (w : World)
    (hr0 : Kd.C Kd.string w A0 old.length old) (hc0 : old.length ≤ c0) (hr1 : Kd.C k41 w A1 l1.length l1) (hc1 : l1.length ≤ c1) (h : apply_Apply.f k old l1 fuzz = some (r1, r2, r3, r4)) :
    Calls Try.prog 9 #[.slice A0 old.length c0, .slice A1 l1.length c1, .int .i64 fuzz] w fun e w' => ∃ v0_ v1_ v2_ : Value, e = .returned (.tuple #[v0_, v1_, v2_, errW r4]) ∧
      Kd.R Kd.string 9 w' w.heap.size (fun _ => True) v0_ r1 ∧ Kd.R k45 45 w' w.heap.size (fun _ => True) v1_ r2 ∧ Kd.R (Kd.int .i64) 3 w' w.heap.size (fun _ => True) v2_ r3 ∧ Below w.heap.size w w' := by
  have hu41 := Try.underlying41
  unfold apply_Apply.f at h
  have HR0 := Aside0.mk hr0
  have HC0 := Aside0.mk hc0
  have HR1 := Aside0.mk hr1
  have HC1 := Aside0.mk hc1
  clear hr0 hc0 hr1 hc1
  by_cases d1 : fuzz < 0
  · rw [if_pos d1] at h
    simp only [Option.some.injEq, Prod.mk.injEq] at h
    obtain ⟨rfl, rfl, rfl, rfl⟩ := h
    have d1b : decide (fuzz < 0) = true := decide_eq_true d1
    clear d1
    go_enter Try.func9, Try.ntmps9
    go_wp2
    (try simp only [Exit.inBlock, Exit.then]); refine bodyPost_ret (results_tmp4 rfl _ _ _) rfl ?_
    exact ⟨_, _, _, rfl, Kd.R_nil _ _ _ _ _, Kd.R_nil _ _ _ _ _, Kd.R_nil _ _ _ _ _, by repeat (first | exact Below.refl _ _ | apply below_alloc)⟩
  · rw [if_neg d1] at h
    have d1b : decide (fuzz < 0) = false := decide_eq_false d1
    by_cases d2 : 3 < fuzz
    · rw [if_pos d2] at h
      simp only [Option.some.injEq, Prod.mk.injEq] at h
      obtain ⟨rfl, rfl, rfl, rfl⟩ := h
      have d2b : decide (3 < fuzz) = true := decide_eq_true d2
      clear d1 d2
      go_enter Try.func9, Try.ntmps9
      go_wp2
      (try simp only [Exit.inBlock, Exit.then]); refine bodyPost_ret (results_tmp4 rfl _ _ _) rfl ?_
      exact ⟨_, _, _, rfl, Kd.R_nil _ _ _ _ _, Kd.R_nil _ _ _ _ _, Kd.R_nil _ _ _ _ _, by repeat (first | exact Below.refl _ _ | apply below_alloc)⟩
    · rw [if_neg d2] at h
      have d2b : decide (3 < fuzz) = false := decide_eq_false d2
      clear d1 d2
      obtain ⟨v, hv, h⟩ := Option.bind_eq_some_iff.mp h
      have HV := Aside0.mk hv
      have HB := Aside0.mk (Below.refl w.heap.size w)
      clear hv
      cases v with
      | false =>
        rw [if_neg (by simp)] at h
        simp only [Option.some.injEq, Prod.mk.injEq] at h
        obtain ⟨rfl, rfl, rfl, rfl⟩ := h
        go_enter Try.func9, Try.ntmps9
        go_wp2_with (go_at_call 23; (with_reducible refine (lines_Valid.calls k A0 c0 old false _ ?s1 HC0.out HV.out).mono ?_); (case s1 => exact Kd.C_below HR0.out HB.out); rintro e' w' ⟨rfl, hd⟩; have HB2 := Aside0.mk (below_step HB.out hd.below); clear hd HB; have HB := HB2; clear HB2)
        (try simp only [Exit.inBlock, Exit.then]); refine bodyPost_ret (results_tmp4 rfl _ _ _) rfl ?_
        exact ⟨_, _, _, rfl, Kd.R_nil _ _ _ _ _, Kd.R_nil _ _ _ _ _, Kd.R_nil _ _ _ _ _, HB.out⟩
      | true =>
        rw [if_pos rfl] at h
        split at h
        case isFalse => cases h
        rename_i hlen
        have HLEN := Aside0.mk hlen
        obtain ⟨b, hbad, h⟩ := Option.bind_eq_some_iff.mp h
        have HBAD := Aside0.mk hbad
        clear hbad hlen
        by_cases hb0 : 0 ≤ b
        · rw [if_pos hb0] at h
          have BB := Aside0.mk (decide_eq_true hb0)
          clear hb0
          simp only [Option.some.injEq, Prod.mk.injEq] at h
          obtain ⟨rfl, rfl, rfl, rfl⟩ := h
          go_enter Try.func9, Try.ntmps9
          go_wp2_with (first | (go_at_call 23; (with_reducible refine (lines_Valid.calls k A0 c0 old true _ ?s1 HC0.out HV.out).mono ?_); (case s1 => exact Kd.C_below HR0.out HB.out); rintro e' w' ⟨rfl, hd⟩; have HB2 := Aside0.mk (below_step HB.out hd.below); clear hd HB; have HB := HB2; clear HB2) | (go_at_call 24; (with_reducible refine (containsBad.calls A1 c1 l1 b _ ?s1 HLEN.out HBAD.out).mono ?_); (case s1 => exact Kd.C_below HR1.out HB.out); rintro e' w' ⟨rfl, hb⟩; have HB2 := Aside0.mk (below_step HB.out hb); clear hb HB; have HB := HB2; clear HB2; simp only [BB.out]))
          (try simp only [Exit.inBlock, Exit.then]); refine bodyPost_ret (results_tmp4 rfl _ _ _) rfl ?_
          exact ⟨_, _, _, rfl, Kd.R_nil _ _ _ _ _, Kd.R_nil _ _ _ _ _, Kd.R_nil _ _ _ _ _, HB.out⟩
        · rw [if_neg hb0] at h
          have BB := Aside0.mk (decide_eq_false hb0)
          clear hb0
          obtain ⟨⟨z1, z2, z3, z4⟩, hz, h⟩ := Option.bind_eq_some_iff.mp h
          have HZ := Aside0.mk hz
          simp only [] at h
          have HE := Aside0.mk h
          clear hz h
          go_enter Try.func9, Try.ntmps9
          go_upto_region 7 with (first | (go_at_call 23; (with_reducible refine (lines_Valid.calls k A0 c0 old true _ ?s1 HC0.out HV.out).mono ?_); (case s1 => exact Kd.C_below HR0.out HB.out); rintro e' w' ⟨rfl, hd⟩; have HB2 := Aside0.mk (below_step HB.out hd.below); clear hd HB; have HB := HB2; clear HB2) | (go_at_call 24; (with_reducible refine (containsBad.calls A1 c1 l1 b _ ?s1 HLEN.out HBAD.out).mono ?_); (case s1 => exact Kd.C_below HR1.out HB.out); rintro e' w' ⟨rfl, hb⟩; have HB2 := Aside0.mk (below_step HB.out hb); clear hb HB; have HB := HB2; clear HB2; simp only [BB.out]))
          go_wp2
          go_loopg [10, 11, 12, 13, 14, 44] (l1.length + 1) (fun kq v10 v11 v12 v13 v14 v44 w' => ∃ (i : Nat) (frm off : Int) (out : List ByteArray) (hits : List S45) (rej : List Int), v44 = .int .i64 (i : Int) ∧ v13 = .int .i64 frm ∧ v14 = .int .i64 off ∧ Aside0 (i + kq = l1.length + 1 ∧ i ≤ l1.length) ∧ Aside0 (applyL k old fuzz (l1.drop i) i frm off out hits rej = some (z1, z2, z3, z4)) ∧ Aside0 (AppIn w v10 v11 v12 out hits rej w'))
          case atStart => exact ⟨0, 0, 0, [], [], [], rfl, rfl, rfl, ⟨by omega⟩, HZ, ⟨HB.out, Kd.R_nil _ _ _ _ _, Kd.R_nil _ _ _ _ _, Kd.R_nil _ _ _ _ _⟩⟩
          case round =>
            clear HB HZ
            obtain ⟨i, frm, off, out, hits, rej, rfl, rfl, rfl, HK, H, HA⟩ := hrel
            by_cases hi : i < l1.length
            · have p1 : 0 ≤ (i : Int) := by omega
              have q1 : (i : Int) < (l1.length : Int) := by omega
              have H1 := H.out
              rw [dropS l1 z41 i hi] at H1
              simp only [applyL] at H1
              have hrd : l1.getD i z41 = rd_T41 l1 (i : Int) := rfl
              rw [hrd] at H1
              obtain ⟨ad, A5, c5, e1, hx0, hx1, hx2, hx3, hx4, hx5, hc5, hr5⟩ := at_T41 HR1.out (i : Int) p1 q1
              replace hx0 := pw_cell_below HA.out.below hx0
              replace hx1 := pw_cell_below HA.out.below hx1
              replace hx2 := pw_cell_below HA.out.below hx2
              replace hx3 := pw_cell_below HA.out.below hx3
              replace hx4 := pw_cell_below HA.out.below hx4
              replace hx5 := pw_cell_below HA.out.below hx5
              cases e1
              simp only [Int.toNat_natCast] at hx0 hx1 hx2 hx3 hx4 hx5
              have z1_ : decide ((i : Int) < (l1.length : Int)) = true := decide_eq_true q1
              generalize rd_T41 l1 (i : Int) = g at H1 hx0 hx1 hx2 hx3 hx4 hx5 hc5 hr5
              clear hrd H
              have H2 := Aside0.mk H1
              have HC5 := Aside0.mk hc5
              have HW : Aside0 (wrap64 ((i : Int) + 1) = ((i + 1 : Nat) : Int)) := ⟨by rw [Pure.w64' (by omega) (by have := HLEN.out; omega)]; omega⟩
              have HR5 := Aside0.mk hr5
              clear H1 hc5 hr5
              go_upto_region 14 with ((with_reducible refine gate_dst (N := 16) rfl ?_); refine box_event ?hg (N := 16) ?hd (cs := #[.int .i64 0, .int .i64 0, .int .i64 0, .int .i64 0, .string ⟨#[]⟩, .slice none 0 0]) (t := 41) ?hr ?_; (case hd => rfl); (case hg => rfl); (case hr => first | (go_simp; done) | (go_simp; rfl)); intro gb hg wx hbox hb; have NG := Aside0.mk (show w.heap.size ≤ gb by have := HA.out.below.size; omega); have HX_ := Aside0.mk (HA.out.then hb); have BX := Aside0.mk hbox; clear HA; clear hb hg; have cz0 := (blk_cell hbox 0).trans rfl; have fz0 := blk_frozen hbox 0; have cz1 := (blk_cell hbox 1).trans rfl; have fz1 := blk_frozen hbox 1; have cz2 := (blk_cell hbox 2).trans rfl; have fz2 := blk_frozen hbox 2; have cz3 := (blk_cell hbox 3).trans rfl; have fz3 := blk_frozen hbox 3; have cz4 := (blk_cell hbox 4).trans rfl; have fz4 := blk_frozen hbox 4; have cz5 := (blk_cell hbox 5).trans rfl; have fz5 := blk_frozen hbox 5; clear hbox)
              have HI : Aside0 (RoundIn w u10 u11 u12 out hits rej gb A5 c5 g ((((((wx.setCell ⟨gb, 0, none⟩ (.int .i64 g.f0)).setCell ⟨gb, 1, none⟩ (.int .i64 g.f1)).setCell ⟨gb, 2, none⟩ (.int .i64 g.f2)).setCell ⟨gb, 3, none⟩ (.int .i64 g.f3)).setCell ⟨gb, 4, none⟩ (.string g.f4)).setCell ⟨gb, 5, none⟩ (.slice A5 g.f5.length c5))) := ⟨⟨((((((HX_.out.set BX.out NG.out 0 (.int .i64 g.f0)).set (blk_set BX.out 0 (.int .i64 g.f0)) NG.out 1 (.int .i64 g.f1)).set (blk_set (blk_set BX.out 0 (.int .i64 g.f0)) 1 (.int .i64 g.f1)) NG.out 2 (.int .i64 g.f2)).set (blk_set (blk_set (blk_set BX.out 0 (.int .i64 g.f0)) 1 (.int .i64 g.f1)) 2 (.int .i64 g.f2)) NG.out 3 (.int .i64 g.f3)).set (blk_set (blk_set (blk_set (blk_set BX.out 0 (.int .i64 g.f0)) 1 (.int .i64 g.f1)) 2 (.int .i64 g.f2)) 3 (.int .i64 g.f3)) NG.out 4 (.string g.f4)).set (blk_set (blk_set (blk_set (blk_set (blk_set BX.out 0 (.int .i64 g.f0)) 1 (.int .i64 g.f1)) 2 (.int .i64 g.f2)) 3 (.int .i64 g.f3)) 4 (.string g.f4)) NG.out 5 (.slice A5 g.f5.length c5)), (blk_set (blk_set (blk_set (blk_set (blk_set (blk_set BX.out 0 (.int .i64 g.f0)) 1 (.int .i64 g.f1)) 2 (.int .i64 g.f2)) 3 (.int .i64 g.f3)) 4 (.string g.f4)) 5 (.slice A5 g.f5.length c5))⟩⟩
              clear HX_ BX NG cz0 cz1 cz2 cz3 cz4 cz5 fz0 fz1 fz2 fz3 fz4 fz5 hx0 hx1 hx2 hx3 hx4 hx5
              generalize ((((((wx.setCell ⟨gb, 0, none⟩ (.int .i64 g.f0)).setCell ⟨gb, 1, none⟩ (.int .i64 g.f1)).setCell ⟨gb, 2, none⟩ (.int .i64 g.f2)).setCell ⟨gb, 3, none⟩ (.int .i64 g.f3)).setCell ⟨gb, 4, none⟩ (.string g.f4)).setCell ⟨gb, 5, none⟩ (.slice A5 g.f5.length c5)) = W1 at HI ⊢
              obtain ⟨x0, x1, x2, x3, x4, x5⟩ := HI.out.cells
              obtain ⟨⟨q, f, b⟩, hf, H1⟩ := Option.bind_eq_some_iff.mp H2.out
              have HF := Aside0.mk hf
              clear hf H2
              cases b with
              | false =>
                rw [if_neg (by simp)] at H1
                split at H1
                case isFalse => cases H1
                rename_i hlim
                have LIM := Aside0.mk hlim
                have H2 := Aside0.mk H1
                clear hlim H1
                go_wp2_with (first | (go_at_call 22; (with_reducible refine (find.calls k A0 c0 old g A5 c5 frm off fuzz q f false _ ?s1 HC0.out ?s3 HC5.out HF.out).mono ?_); (case s1 => exact Kd.C_below HR0.out HI.out.app.below); (case s3 => exact Kd.C_below HR5.out HI.out.app.below); rintro e' w' ⟨rfl, hb⟩; have HI2 := Aside0.mk (HI.out.then hb); clear hb HI x0 x1 x2 x3 x4 x5 ; have HI := HI2; clear HI2; obtain ⟨x0, x1, x2, x3, x4, x5⟩ := HI.out.cells) | ((with_reducible refine gate_builtin (b := .append) (xs := #[.tmp 61, .tmp 63]) rfl ?_); at_builtin; refine Kd.R_append (Kd.int .i64) (w0 := w) w.heap.size rfl (.tmp 61) (.tmp 63) 32 3 (.int .i64 0) 8 rfl Try.underlying32 infoInt rfl (by decide) (by omega) u12 rej (i : Int) [.int .i64 (i : Int)] (fun _ => True) (fun _ => False) rfl rfl ?aP (fun _ hk => hk.elim) ?aF ?aO ?aB ?aS ?aL ?_; (case aP => exact rfl); (case aB => exact (HI.out.then (by repeat (first | exact Below.refl _ _ | apply below_alloc | apply pw_below_drewN))).app.below); (case aF => exact fun _ _ => trivial); (case aO => exact (HI.out.then (by repeat (first | exact Below.refl _ _ | apply below_alloc | apply pw_below_drewN))).app.r); (case aS => exact (HI.out.then (by repeat (first | exact Below.refl _ _ | apply below_alloc | apply pw_below_drewN))).app.below.size); (case aL => have := LIM.out; omega); intro v13 w1 ho hb hg hat; have HI2 := Aside0.mk (RoundIn.rejected (HI.out.then (by repeat (first | exact Below.refl _ _ | apply below_alloc | apply pw_below_drewN))) hb hg ho); clear HI ho hb hg hat x0 x1 x2 x3 x4 x5; have HI := HI2; clear HI2; obtain ⟨x0, x1, x2, x3, x4, x5⟩ := HI.out.cells))
                go_roundg (gk - 1)
                case measure => have := HK.out; omega
                case rel => exact ⟨i + 1, frm, off, out, hits, rej ++ [(i : Int)], (by first | (rw [HW.out]; done) | go_num | (simp; done)), rfl, rfl, ⟨by have := HK.out; omega⟩, H2, ⟨HI.out.app⟩⟩
              | true =>
                rw [if_pos rfl] at H1
                obtain ⟨⟨rows, kk⟩, hx, H1⟩ := Option.bind_eq_some_iff.mp H1
                obtain ⟨⟨a, b⟩, hy, H1⟩ := Option.bind_eq_some_iff.mp H1
                obtain ⟨s, hs, H1⟩ := Option.bind_eq_some_iff.mp H1
                split at H1
                case isFalse => cases H1
                rename_i hlim
                have HX := Aside0.mk hx
                have HY := Aside0.mk hy
                have HS := Aside0.mk hs
                obtain ⟨hc1, hlim⟩ := hlim
                simp only [] at hc1 hlim H1
                have LIM := Aside0.mk hlim
                obtain ⟨i0, hi0, _, hsz, _⟩ := info_parts info9
                obtain ⟨AC, hcut, hrc, hcc⟩ := cut_rows Kd.string 23 9 Try.underlying23 hi0 hsz A0 c0 old frm (wrap64 (q + kk)) hc1.1 hc1.2.1 hc1.2.2 HC0.out
                have HCR := Aside0.mk hrc
                obtain ⟨out1, ho1⟩ : ∃ z, z = out ++ cutL old frm (wrap64 (q + kk)) := ⟨_, rfl⟩
                rw [← ho1] at H1
                have HO1 := Aside0.mk ho1
                have H2 := Aside0.mk H1
                clear hx hy hs hlim hc1 hrc hcc hi0 hsz ho1 H1
                go_upto_region 18 with (first | (go_at_call 22; (with_reducible refine (find.calls k A0 c0 old g A5 c5 frm off fuzz q f true _ ?s1 HC0.out ?s3 HC5.out HF.out).mono ?_); (case s1 => exact Kd.C_below HR0.out HI.out.app.below); (case s3 => exact Kd.C_below HR5.out HI.out.app.below); rintro e' w' ⟨rfl, hb⟩; have HI2 := Aside0.mk (HI.out.then hb); clear hb HI x0 x1 x2 x3 x4 x5 ; have HI := HI2; clear HI2; obtain ⟨x0, x1, x2, x3, x4, x5⟩ := HI.out.cells) | (go_at_call 27; (with_reducible refine (left.calls g A5 c5 f rows kk _ ?s1 HC5.out HX.out).mono ?_); (case s1 => exact Kd.C_below HR5.out HI.out.app.below); rintro e' w' ⟨A', c', rfl, hrr, hrc, hb⟩; have HRR := Aside0.mk hrr; have HRC := Aside0.mk hrc; clear hrr hrc; have HI2 := Aside0.mk (HI.out.then hb); clear hb HI x0 x1 x2 x3 x4 x5 ; have HI := HI2; clear HI2; obtain ⟨x0, x1, x2, x3, x4, x5⟩ := HI.out.cells))
                go_upto_region 19 with (go_at_call 28; (with_reducible refine (apply_sides.calls k A' c' rows a b _ HRR.out HRC.out HY.out).mono ?_); rintro e' w' ⟨v0, v1, rfl, ho0, ho1, hb⟩; obtain ⟨A9, c9, rfl⟩ := own_slice (Kd.own_of_R ho0); obtain ⟨A8, c8, rfl⟩ := own_slice (Kd.own_of_R ho1); have HO8 := Aside0.mk (Kd.R_newR ho1 HI.out.app.o); clear ho0 ho1; have HI2 := Aside0.mk (HI.out.then hb); clear hb HI x0 x1 x2 x3 x4 x5 ; have HI := HI2; clear HI2; obtain ⟨x0, x1, x2, x3, x4, x5⟩ := HI.out.cells)
                go_upto_region 20 with ((with_reducible refine gate_builtin (b := .append) (xs := #[.tmp 76, .tmp 82]) rfl ?_); at_builtin; refine Kd.R_append_rows Kd.string (w0 := w) w.heap.size rfl (.tmp 76) (.tmp 82) 23 9 (.string ⟨#[]⟩) 16 rfl Try.underlying23 info9 rfl (by decide) (by omega) u10 out (cutL old frm (wrap64 (q + kk))) _ _ _ (fun _ => True) (fun _ => False) rfl rfl ?aO ?aR (fun _ _ h => h) (fun _ h => h.elim) ?aF ?aB ?aS ?aL ?_; (case aR => exact HCR.out _ (Kd.C_below HR0.out HI.out.app.below)); (case aB => exact HI.out.app.below); (case aF => exact fun _ _ => trivial); (case aO => exact HI.out.app.o); (case aS => exact HI.out.app.below.size); (case aL => have := LIM.out.1; simp only [List.length_append] at this; omega); intro v10 w1 ho hb hg hat; rw [← HO1.out] at ho; obtain ⟨A10, c10, rfl⟩ := own_slice (Kd.own_of_R ho); have HI2 := Aside0.mk (HI.out.outs hb hg ho); have HO8b := Aside0.mk (Kd.R_grown HO8.out hg (fun k_ hk_ => hk_.2)); clear HI HO8 ho hb hg hat x0 x1 x2 x3 x4 x5; have HI := HI2; have HO8 := HO8b; clear HI2 HO8b; obtain ⟨x0, x1, x2, x3, x4, x5⟩ := HI.out.cells)
                go_wp2_with (first | ((with_reducible refine gate_builtin (b := .append) (xs := #[.tmp 90, .tmp 91]) rfl ?_); at_builtin; refine Kd.R_append_rows Kd.string (w0 := w) w.heap.size rfl (.tmp 90) (.tmp 91) 23 9 (.string ⟨#[]⟩) 16 rfl Try.underlying23 info9 rfl (by decide) (by omega) (.slice A10 out1.length c10) out1 b _ _ _ (fun _ => True) (fun _ => False) rfl rfl ?aO ?aR (fun _ _ h => h) (fun _ h => h.elim) ?aF ?aB ?aS ?aL ?_; (case aR => exact (Kd.R_reads' HO8.out).2.2); (case aB => exact HI.out.app.below); (case aF => exact fun _ _ => trivial); (case aO => exact HI.out.app.o); (case aS => exact HI.out.app.below.size); (case aL => have := LIM.out.1; rw [← HO1.out] at this; simp only [List.length_append] at this; omega); intro v12 w1 ho hb hg hat; have HI2 := Aside0.mk (HI.out.outs hb hg ho); clear HI HO8 ho hb hg hat x0 x1 x2 x3 x4 x5; have HI := HI2; clear HI2; obtain ⟨x0, x1, x2, x3, x4, x5⟩ := HI.out.cells) | (go_at_call 29; (with_reducible refine (apply_stated.calls g.f0 g.f1 g.f2 g.f3 g.f4 A5 c5 g.f5 s _ ?s1 HC5.out HS.out).mono ?_); (case s1 => exact Kd.C_below HR5.out HI.out.app.below); rintro e' w' ⟨rfl, hb⟩; have HI2 := Aside0.mk (HI.out.then hb); clear hb HI x0 x1 x2 x3 x4 x5 ; have HI := HI2; clear HI2; obtain ⟨x0, x1, x2, x3, x4, x5⟩ := HI.out.cells) | ((with_reducible refine gate_builtin (b := .append) (xs := #[.tmp 103, .tmp 112]) rfl ?_); at_builtin; refine Kd.R_append k45 (w0 := w) w.heap.size rfl (.tmp 103) (.tmp 112) 31 45 (.agg #[.int .i64 0, .int .i64 0, .int .i64 0, .int .i64 0]) 32 rfl Try.underlying31 infoHit rfl (by decide) (by omega) u11 hits (⟨(i : Int), wrap64 (wrap64 (q + 1) + wrap64 ((out1.length : Int) - wrap64 (q + kk))), wrap64 (q - s), f⟩ : S45) [.int .i64 (i : Int), .int .i64 (wrap64 (wrap64 (q + 1) + wrap64 ((out1.length : Int) - wrap64 (q + kk)))), .int .i64 (wrap64 (q - s)), .int .i64 f] (fun _ => True) (fun _ => False) rfl rfl ?aP (fun _ hk => hk.elim) ?aF ?aO ?aB ?aS ?aL ?_; (case aP => exact k45_mkM _ _ _ (⟨(i : Int), wrap64 (wrap64 (q + 1) + wrap64 ((out1.length : Int) - wrap64 (q + kk))), wrap64 (q - s), f⟩ : S45)); (case aB => exact (HI.out.then (by repeat (first | exact Below.refl _ _ | apply below_alloc | apply pw_below_drewN))).app.below); (case aF => exact fun _ _ => trivial); (case aO => exact (HI.out.then (by repeat (first | exact Below.refl _ _ | apply below_alloc | apply pw_below_drewN))).app.h); (case aS => exact (HI.out.then (by repeat (first | exact Below.refl _ _ | apply below_alloc | apply pw_below_drewN))).app.below.size); (case aL => have := LIM.out.2; omega); intro v13 w1 ho hb hg hat; have HI2 := Aside0.mk (RoundIn.hitted (HI.out.then (by repeat (first | exact Below.refl _ _ | apply below_alloc | apply pw_below_drewN))) hb hg ho); clear HI ho hb hg hat x0 x1 x2 x3 x4 x5; have HI := HI2; clear HI2; obtain ⟨x0, x1, x2, x3, x4, x5⟩ := HI.out.cells))
                go_roundg (gk - 1)
                case measure => have := HK.out; omega
                case rel => exact ⟨i + 1, _, _, _, _, rej, (by first | (rw [HW.out]; done) | go_num | (simp; done)), rfl, rfl, ⟨by have := HK.out; omega⟩, H2, ⟨HI.out.app⟩⟩
            · have hd : l1.drop i = [] := List.drop_of_length_le (by omega)
              have h1 := H.out
              rw [hd] at h1
              simp only [applyL, Option.some.injEq, Prod.mk.injEq] at h1
              obtain ⟨rfl, rfl, rfl, rfl⟩ := h1
              have z1_ : decide ((i : Int) < (l1.length : Int)) = false := decide_eq_false (by omega)
              clear H
              have h := HE.out
              split at h
              case isFalse => cases h
              rename_i hlim
              obtain ⟨hc1, hlim⟩ := hlim
              obtain ⟨out1, ho1⟩ : ∃ z, z = out ++ cutL old frm old.length := ⟨_, rfl⟩
              rw [← ho1] at h hlim
              obtain ⟨i0, hi0, _, hsz, _⟩ := info_parts info9
              obtain ⟨AC, hcut, hrc, hcc⟩ := cut_rest Kd.string 23 9 Try.underlying23 hi0 hsz A0 c0 old frm hc1.1 hc1.2 HC0.out
              have HCR := Aside0.mk hrc
              have HO1 := Aside0.mk ho1
              have LIM := Aside0.mk hlim
              obtain ⟨v2, hv2, h⟩ := Option.bind_eq_some_iff.mp h
              have HV2 := Aside0.mk hv2
              clear hlim hc1 hrc hcc hi0 hsz ho1 hv2 HE
              cases v2 with
              | true =>
                rw [if_pos rfl] at h
                simp only [Option.some.injEq, Prod.mk.injEq] at h
                obtain ⟨rfl, rfl, rfl, rfl⟩ := h
                go_wp2_with (first | ((with_reducible refine gate_builtin (b := .append) (xs := #[.tmp 115, .tmp 118]) rfl ?_); at_builtin; refine Kd.R_append_rows Kd.string (w0 := w) w.heap.size rfl (.tmp 115) (.tmp 118) 23 9 (.string ⟨#[]⟩) 16 rfl Try.underlying23 info9 rfl (by decide) (by omega) u10 out (cutL old frm old.length) _ _ _ (fun _ => True) (fun _ => False) rfl rfl ?aO ?aR (fun _ _ h => h) (fun _ h => h.elim) ?aF ?aB ?aS ?aL ?_; (case aR => exact HCR.out _ (Kd.C_below HR0.out HA.out.below)); (case aB => exact HA.out.below); (case aF => exact fun _ _ => trivial); (case aO => exact HA.out.o); (case aS => exact HA.out.below.size); (case aL => have := LIM.out; rw [HO1.out] at this; simp only [List.length_append] at this; omega); intro v10 w1 ho hb hg hat; rw [← HO1.out] at ho; obtain ⟨A10, c10, rfl⟩ := own_slice (Kd.own_of_R ho); have HA2 := Aside0.mk (HA.out.outs hb hg ho); clear HA ho hb hg hat; have HA := HA2; clear HA2) | (go_at_call 23; (with_reducible refine (lines_Valid.calls k A10 c10 out1 true _ ?s1 ?s2 HV2.out).mono ?_); (case s1 => exact (Kd.R_reads' HA.out.o).2.2); (case s2 => exact (Kd.R_reads' HA.out.o).2.1); rintro e' w' ⟨rfl, hd⟩; have HA2 := Aside0.mk (HA.out.then hd.below); clear hd HA; have HA := HA2; clear HA2))
                (try simp only [Exit.inBlock, Exit.then]); refine bodyPost_ret (results_tmp4 rfl _ _ _) rfl ?_
                exact ⟨_, _, _, rfl, HA.out.o, HA.out.h, HA.out.r, HA.out.below⟩
              | false =>
                rw [if_neg (by simp)] at h
                simp only [Option.some.injEq, Prod.mk.injEq] at h
                obtain ⟨rfl, rfl, rfl, rfl⟩ := h
                go_wp2_with (first | ((with_reducible refine gate_builtin (b := .append) (xs := #[.tmp 115, .tmp 118]) rfl ?_); at_builtin; refine Kd.R_append_rows Kd.string (w0 := w) w.heap.size rfl (.tmp 115) (.tmp 118) 23 9 (.string ⟨#[]⟩) 16 rfl Try.underlying23 info9 rfl (by decide) (by omega) u10 out (cutL old frm old.length) _ _ _ (fun _ => True) (fun _ => False) rfl rfl ?aO ?aR (fun _ _ h => h) (fun _ h => h.elim) ?aF ?aB ?aS ?aL ?_; (case aR => exact HCR.out _ (Kd.C_below HR0.out HA.out.below)); (case aB => exact HA.out.below); (case aF => exact fun _ _ => trivial); (case aO => exact HA.out.o); (case aS => exact HA.out.below.size); (case aL => have := LIM.out; rw [HO1.out] at this; simp only [List.length_append] at this; omega); intro v10 w1 ho hb hg hat; rw [← HO1.out] at ho; obtain ⟨A10, c10, rfl⟩ := own_slice (Kd.own_of_R ho); have HA2 := Aside0.mk (HA.out.outs hb hg ho); clear HA ho hb hg hat; have HA := HA2; clear HA2) | (go_at_call 23; (with_reducible refine (lines_Valid.calls k A10 c10 out1 false _ ?s1 ?s2 HV2.out).mono ?_); (case s1 => exact (Kd.R_reads' HA.out.o).2.2); (case s2 => exact (Kd.R_reads' HA.out.o).2.1); rintro e' w' ⟨rfl, hd⟩; have HA2 := Aside0.mk (HA.out.then hd.below); clear hd HA; have HA := HA2; clear HA2))
                (try simp only [Exit.inBlock, Exit.then]); refine bodyPost_ret (results_tmp4 rfl _ _ _) rfl ?_
                exact ⟨_, _, _, rfl, Kd.R_nil _ _ _ _ _, Kd.R_nil _ _ _ _ _, Kd.R_nil _ _ _ _ _, HA.out.below⟩
end Go.Proofs.Ytkoagpnoaibdjaa.Ext
