/-
  hunks.Narrow and its closures; walked by hand.
-/
import Derived.Test.YtecjoofjiockkaaGreatDoorPp26
import Derived.Test.YtecjoofjiockkaaGreatDoorPp4
import Derived.Test.YtecjoofjiockkaaGreatDoorPp7
import Derived.Test.YtecjoofjiockkaaGreatDoorEClone
import Derived.Test.YtecjoofjiockkaaGreatDoorESt
import Derived.OneCell
namespace Go.Proofs.YtecjoofjiockkaaGreatDoor.Ext
open Go.RowKit Go.Proofs.YtecjoofjiockkaaGreatDoor.Pp Go.Proofs.YtecjoofjiockkaaGreatDoorW.PrintWords Go.Proofs.YtecjoofjiockkaaGreatDoorW.PrintLast Go.Proofs.YtecjoofjiockkaaGreatDoorW.PrintMore
set_option linter.unusedVariables false
set_option linter.unusedSimpArgs false
attribute [local go_sem] max_two min_two
theorem putN {P : Program} {md : Region.Mode} {ops : Array Oper} {Q : Exit → Act → World → Prop} {S : World → Prop} {ds : List Nat} {fuel : Nat} {l : Array Bool} {a a' : Act} {w : World} (h : wpAnyLast P md ops Q S ds fuel l a' w)
    (ha : a = a' := by (show Act.put _ (some _) _ = _; simp only [Act.put, List.setIfInBounds_toArray, List.set_cons_zero, List.set_cons_succ]; rfl)) : wpAnyLast P md ops Q S ds fuel l a w := norm_ ha h
abbrev hunkC (h : S29) (v : Value) : Array Value := #[.int .i64 h.f0, .int .i64 h.f1, .int .i64 h.f2, .int .i64 h.f3, .string h.f4, v]
structure NarIn (w0 : World) (gh go ga gb : Nat) (h : S29) (vr vo : Value) (out : List S29) (a b : Int) (w : World) : Prop where
  below : Below w0.heap.size w0 w
  o : Kd.S k29 29 w w0.heap.size (fun _ => True) vo out
  bh : w.heap[gh]? = some (.cells (hunkC h vr) 29 (0, 0))
  bo : w.heap[go]? = some (.cells #[vo] 22 (0, 0))
  ba : w.heap[ga]? = some (.cells #[.int .i64 a] 3 (0, 0))
  bb : w.heap[gb]? = some (.cells #[.int .i64 b] 3 (0, 0))
  lh : w0.heap.size ≤ gh
  lo : w0.heap.size ≤ go
  la : w0.heap.size ≤ ga
  lb : w0.heap.size ≤ gb
  nab : ga ≠ gb
  nh : some gh ≠ vo.ownBlock
section
variable {w0 w w1 : World} {gh go ga gb gp : Nat} {h : S29} {vr vo v1 : Value} {out out1 : List S29} {a b : Int}
theorem NarIn.then (i : NarIn w0 gh go ga gb h vr vo out a b w) (k : Below w.heap.size w w1) : NarIn w0 gh go ga gb h vr vo out a b w1 :=
  ⟨below_step i.below k, Kd.S_below i.o k, blk_below i.bh k, blk_below i.bo k, blk_below i.ba k, blk_below i.bb k, i.lh, i.lo, i.la, i.lb, i.nab, i.nh⟩
theorem NarIn.cells (i : NarIn w0 gh go ga gb h vr vo out a b w) : w.cell? ⟨go, 0, none⟩ = some vo ∧ w.cell? ⟨ga, 0, none⟩ = some (.int .i64 a) ∧ w.cell? ⟨gb, 0, none⟩ = some (.int .i64 b) :=
  ⟨(blk_cell i.bo 0).trans rfl, (blk_cell i.ba 0).trans rfl, (blk_cell i.bb 0).trans rfl⟩
theorem NarIn.old (i : NarIn w0 gh go ga gb h vr vo out a b w) : Kd.S k29 29 w w0.heap.size (fun k => k < w.heap.size) vo out := Kd.S_mono (Kd.S_bound i.o) (fun _ hk => hk.2.2.1)
theorem NarIn.setA (i : NarIn w0 gh go ga gb h vr vo out a b w) (a' : Int) : NarIn w0 gh go ga gb h vr vo out a' b (w.setCell ⟨ga, 0, none⟩ (.int .i64 a')) :=
  ⟨below_set i.below i.la, Kd.S_set i.o i.ba (by decide) 0 _, blk_far i.bh (blk_ne i.bh i.ba (by decide)) _, blk_far i.bo (blk_ne i.bo i.ba (by decide)) _, (blk_set i.ba 0 _).trans rfl, blk_far i.bb i.nab.symm _, i.lh, i.lo, i.la, i.lb, i.nab, i.nh⟩
theorem NarIn.setB (i : NarIn w0 gh go ga gb h vr vo out a b w) (b' : Int) : NarIn w0 gh go ga gb h vr vo out a b' (w.setCell ⟨gb, 0, none⟩ (.int .i64 b')) :=
  ⟨below_set i.below i.lb, Kd.S_set i.o i.bb (by decide) 0 _, blk_far i.bh (blk_ne i.bh i.bb (by decide)) _, blk_far i.bo (blk_ne i.bo i.bb (by decide)) _, blk_far i.ba i.nab _, (blk_set i.bb 0 _).trans rfl, i.lh, i.lo, i.la, i.lb, i.nab, i.nh⟩
theorem NarIn.stored (i : NarIn w0 gh go ga gb h vr vo out a b w) (hb : Below w0.heap.size w0 w1) (hg : w.grownBy w1 vo.ownBlock) (ho : Kd.S k29 29 w1 w0.heap.size (fun _ => True) v1 out1) (hn : some gh ≠ v1.ownBlock) :
    NarIn w0 gh go ga gb h vr v1 out1 a b (w1.setCell ⟨go, 0, none⟩ v1) := by
  have ch := blk_grown i.bh hg i.nh
  have co := blk_grown i.bo hg (Kd.S_ne i.o i.bo (by decide))
  have ca := blk_grown i.ba hg (Kd.S_ne i.o i.ba (by decide))
  have cb := blk_grown i.bb hg (Kd.S_ne i.o i.bb (by decide))
  exact ⟨below_set hb i.lo, Kd.S_set ho co (by decide) 0 v1, blk_far ch (blk_ne ch co (by decide)) v1, (blk_set co 0 v1).trans rfl, blk_far ca (blk_ne ca co (by decide)) v1, blk_far cb (blk_ne cb co (by decide)) v1, i.lh, i.lo, i.la, i.lb, i.nab, hn⟩
end
structure NarP (w0 : World) (n gh go ga gb gp : Nat) (h : S29) (vr vo : Value) (out : List S29) (a b : Int) (cs : Array Value) (vp : Value) (l : List S53) (w : World) : Prop where
  i : NarIn w0 gh go ga gb h vr vo out a b w
  o : Kd.S k29 29 w w0.heap.size (fun k => k < n) vo out
  r : Kd.R k53 53 w n (fun _ => True) vp l
  bp : w.heap[gp]? = some (.cells cs 29 (0, 0))
  g : n ≤ gp
  g0 : w0.heap.size ≤ n
  hh : gh < n
section
variable {w0 w w1 : World} {n gh go ga gb gp : Nat} {h p : S29} {vr vo vp v1 : Value} {out out1 : List S29} {l : List S53} {a b : Int} {cs : Array Value}
theorem NarP.set (i : NarP w0 n gh go ga gb gp h vr vo out a b cs vp l w) (j : Nat) (y : Value) : NarP w0 n gh go ga gb gp h vr vo out a b (cs.setIfInBounds j y) vp l (w.setCell ⟨gp, j, none⟩ y) := by
  have hg := i.g
  have hh := i.hh
  have hg0 := i.g0
  have ho := Kd.S_far (p := ⟨gp, j, none⟩) i.o (fun k hk e => by have e : k = gp := e; omega) y
  exact ⟨⟨below_set i.i.below (by omega), Kd.S_mono ho (fun _ _ => trivial), blk_far i.i.bh (by show gh ≠ gp; omega) y, blk_far i.i.bo (blk_ne i.i.bo i.bp (by decide)) y, blk_far i.i.ba (blk_ne i.i.ba i.bp (by decide)) y, blk_far i.i.bb (blk_ne i.i.bb i.bp (by decide)) y, i.i.lh, i.i.lo, i.i.la, i.i.lb, i.i.nab, i.i.nh⟩,
    ho, Kd.R_set i.r i.bp (by decide) j y, blk_set i.bp j y, hg, hg0, hh⟩
theorem NarP.cast {cs' : Array Value} (i : NarP w0 n gh go ga gb gp h vr vo out a b cs vp l w) (e : cs = cs') : NarP w0 n gh go ga gb gp h vr vo out a b cs' vp l w := e ▸ i
theorem NarP.apart (i : NarP w0 n gh go ga gb gp h vr vo out a b cs vp l w) : Kd.S k29 29 w w0.heap.size (fun k => True ∧ ¬ (some k = vp.ownBlock)) vo out :=
  Kd.S_mono i.o (fun k hk => ⟨trivial, fun e => by have := Kd.R_base i.r k e.symm; omega⟩)
theorem NarP.apart2 (i : NarP w0 n gh go ga gb gp h vr vo out a b cs vp l w) : ∀ k, some k = vp.ownBlock → True ∧ some k ≠ vo.ownBlock := fun k e => ⟨trivial, fun e2 => by
  have := Kd.R_base i.r k e.symm
  have := i.o.choose_spec.1 k e2.symm
  omega⟩
theorem NarP.ne (i : NarP w0 n gh go ga gb gp h vr vo out a b cs vp l w) : some gp ≠ vo.ownBlock := fun e => by
  have := i.o.choose_spec.1 gp e.symm
  have := i.g
  omega
theorem NarP.stored (i : NarP w0 n gh go ga gb gp h vr vo out a b cs vp l w) (hb : Below w0.heap.size w0 w1) (hg : w.grownBy w1 vo.ownBlock) (ho : Kd.S k29 29 w1 w0.heap.size (fun _ => True) v1 out1) (hat : v1.ownBlock = vo.ownBlock ∨ ∃ b, v1.ownBlock = some b ∧ w.heap.size ≤ b) :
    NarIn w0 gh go ga gb h vr v1 out1 a b (w1.setCell ⟨go, 0, none⟩ v1) ∧ (w1.setCell ⟨go, 0, none⟩ v1).heap[gp]? = some (.cells cs 29 (0, 0)) := by
  have co := blk_grown i.i.bo hg (Kd.S_ne i.i.o i.i.bo (by decide))
  have cp := blk_grown i.bp hg i.ne
  refine ⟨i.i.stored hb hg ho ?_, blk_far cp (blk_ne cp co (by decide)) v1⟩
  rcases hat with e | ⟨b, e, hle⟩
  · rw [e]; exact i.i.nh
  · rw [e]; intro e2; injection e2 with e2; have := blk_lt i.i.bh; omega
end
def pieceF (k : Nat) (hd : ByteArray) (l : List S53) (a b : Int) (out : List S29) : Option S29 :=
  if l.length ≤ 1000000000 ∧ out.length ≤ 1000000000 then (hunks_counted.f k 0 0 0 0 ⟨#[]⟩ l a b).map fun p => ⟨p.1, p.2.1, p.2.2.1, p.2.2.2.1, if out.length = 0 then hd else p.2.2.2.2.1, p.2.2.2.2.2⟩ else none
set_option maxHeartbeats 8000000 in
set_option maxRecDepth 100000 in
theorem nar1.calls (k : Nat) (w0 : World) (gh go ga gb : Nat) (h : S29) (vr vo : Value) (out : List S29) (a b : Int) (A : Option Addr) (c : Nat) (l : List S53) (p : S29) (w : World)
    (hI : NarIn w0 gh go ga gb h vr vo out a b w) (hr : Kd.C k53 w A l.length l) (hc : l.length ≤ c) (hp : pieceF k h.f4 l a b out = some p) :
    Calls Tryz.prog 62 #[.slice A l.length c, .pointer (some ⟨ga, 0, none⟩), .pointer (some ⟨gb, 0, none⟩), .pointer (some ⟨go, 0, none⟩), .pointer (some ⟨gh, 0, none⟩)] w
      fun e w' => e = .returned (.tuple #[]) ∧ ∃ v1, NarIn w0 gh go ga gb h vr v1 (out ++ [p]) (wrap64 (a + p.f1)) (wrap64 (b + p.f3)) w' := by
  unfold pieceF at hp
  split at hp
  case isFalse => cases hp
  rename_i hle
  obtain ⟨⟨r1, r2, r3, r4, r5, r6⟩, hcn, hp⟩ := Option.map_eq_some_iff.mp hp
  simp only at hp
  have HI := Aside0.mk hI
  have HR := Aside0.mk hr
  have HC := Aside0.mk hc
  have HN := Aside0.mk hcn
  have HP := Aside0.mk hp
  have HLE := Aside0.mk hle
  have HCL := Aside0.mk (show api_Row.f l = some l by unfold api_Row.f; rw [if_pos hle.1])
  obtain ⟨x0, x1, x2⟩ := HI.out.cells
  clear hI hr hc hcn hp hle
  go_enter Tryz.func62, Tryz.ntmps62
  go_upto_region 0 with (fail)
  refine start_ (n := 8) (ds := [7]) (S := fun w' => w'.cell? ⟨ga, 0, none⟩ = some (.int .i64 a) ∧ w'.cell? ⟨gb, 0, none⟩ = some (.int .i64 b)) #[false, false, false, false, false, false, false, false] (by kernel_rfl) rfl rfl ⟨x1, x2⟩ (fun hHeld => ?_)
  have HD := Aside0.mk (HI.out.then (below_drew (Below.refl _ _)))
  have HRD := Aside0.mk (Kd.C_drew HR.out)
  generalize w.drew = wd at HD HRD hHeld ⊢
  refine pureK 0 ?_
  refine takeK 3 hHeld ?_
  refine takeK 4 hHeld ?_
  refine join_ (σ := Nat × (Option Addr × Nat) × (Option Addr × Nat)) 1 #[true, true, true, true, true, true, true, false]
    (fun s => [(8, .slice s.2.1.1 l.length s.2.1.2), (9, .agg #[.int .i64 0, .int .i64 0, .int .i64 0, .int .i64 0, .string ⟨#[]⟩, .slice s.2.1.1 l.length s.2.1.2]), (12, .agg #[.int .i64 r1, .int .i64 r2, .int .i64 r3, .int .i64 r4, .string r5, .slice s.2.2.1 r6.length s.2.2.2]), (6, .pointer (some ⟨s.1, 0, none⟩))])
    (fun s w' => (w'.cell? ⟨ga, 0, none⟩ = some (.int .i64 a) ∧ w'.cell? ⟨gb, 0, none⟩ = some (.int .i64 b)) ∧ Below wd.heap.size wd w' ∧ w'.heap[s.1]? = some (.cells #[.int .i64 0, .int .i64 0, .int .i64 0, .int .i64 0, .string ⟨#[]⟩, .slice none 0 0] 29 (0, 0)) ∧ wd.heap.size ≤ s.1 ∧ Kd.R k53 53 w' wd.heap.size (fun _ => True) (.slice s.2.2.1 r6.length s.2.2.2) r6) ?_ ?_
  rotate_left
  · intro hCont
    have HX := Aside0.mk hHeld
    refine two_ (i := 1) (j := 6) (Ni := some 8) (Nj := some 6) #[true, true, false, true, true, false, false, false] #[true, false, false, true, true, false, true, false] rfl rfl rfl rfl (by kernel_rfl) (by decide) (by decide) (fun K hK => ?_) (fun K hK => ?_)
    · refine goes_ Tryz.func61 (by kernel_rfl) rfl #[.slice A l.length c] (by rfl) rfl rfl argsOk ?_
      with_reducible refine (api_Row.calls _ _ l l _ ?side1 HC.out HCL.out).mono ?_
      (case side1 => exact HRD.out)
      rintro e w_ ⟨v_, rfl, ho, hb⟩
      refine ⟨_, rfl, ?_⟩
      have HO1 := Aside0.mk ho
      have HB1 := Aside0.mk hb
      clear ho hb
      obtain ⟨A1, c1, rfl⟩ := Kd.R_slice HO1.out
      have hc0 : _ ∧ _ := ⟨(HB1.out.cell (World.block_lt_of_cell? wd _ HX.out.1)).trans HX.out.1, (HB1.out.cell (World.block_lt_of_cell? wd _ HX.out.2)).trans HX.out.2⟩
      refine hK.out _ _ hc0 (fun hHeld => ?_)
      clear hc0 hK K
      refine putN ?_
      refine pureK 2 ?_
      refine two_ (i := 5) (j := 6) (Ni := some 12) (Nj := some 6) #[true, true, true, true, true, true, false, false] #[true, true, true, true, true, false, true, false] rfl rfl rfl rfl (by kernel_rfl) (by decide) (by decide) (fun K hK => ?_) (fun K hK => ?_)
      · refine goes_ Tryz.func63 (by kernel_rfl) rfl #[.agg #[.int .i64 0, .int .i64 0, .int .i64 0, .int .i64 0, .string ⟨#[]⟩, .slice A1 l.length c1], .int .i64 a, .int .i64 b] (by rfl) rfl rfl argsOk ?_
        with_reducible refine (hunks_counted.calls k 0 0 0 0 ⟨#[]⟩ (fun k_ => some k_ = (.slice A1 l.length c1 : Value).ownBlock) (.slice A1 l.length c1) l a b r1 r2 r3 r4 r5 r6 wd _ ?side1 ?side2 HN.out).mono ?_
        (case side1 => exact HB1.out)
        (case side2 => exact Kd.R_tight rfl HO1.out)
        rintro e w2_ ⟨v2_, rfl, ho2, hb2, hkp⟩
        refine ⟨_, rfl, ?_⟩
        have HO2 := Aside0.mk (Kd.R_mono (ok' := fun _ => True) ho2 (fun _ _ => trivial))
        have HB2 := Aside0.mk hb2
        clear ho2 hb2 hkp
        obtain ⟨A2, c2, rfl⟩ := Kd.R_slice HO2.out
        have hc0 : _ ∧ _ := ⟨(HB2.out.cell (World.block_lt_of_cell? wd _ HX.out.1)).trans HX.out.1, (HB2.out.cell (World.block_lt_of_cell? wd _ HX.out.2)).trans HX.out.2⟩
        refine hK.out _ _ hc0 (fun hHeld => ?_)
        clear hc0 hK K
        refine putN ?_
        refine one_ (i := 6) (N := some 6) #[true, true, true, true, true, true, true, false] rfl rfl (by kernel_rfl) (by decide) (fun K hK => ?_)
        refine box_step ?hg (N := 6) ?hd (cs := #[.int .i64 0, .int .i64 0, .int .i64 0, .int .i64 0, .string ⟨#[]⟩, .slice none 0 0]) (t := 29) ?hr ?_; (case hd => rfl); (case hg => rfl); (case hr => first | (go_simp; done) | (go_simp; rfl))
        intro gp hg wb hbox hbb
        have HBX := Aside0.mk hbox
        have HB3 := Aside0.mk (below_step HB2.out hbb)
        have HO3 := Aside0.mk (Kd.R_below HO2.out hbb)
        have HG := Aside0.mk (show wd.heap.size ≤ gp by rw [hg]; exact HB2.out.size)
        clear hbox hbb hg
        have hc0 : _ ∧ _ := ⟨(HB3.out.cell (World.block_lt_of_cell? wd _ HX.out.1)).trans HX.out.1, (HB3.out.cell (World.block_lt_of_cell? wd _ HX.out.2)).trans HX.out.2⟩
        refine hK.out _ _ hc0 (fun hHeld => ?_)
        clear hc0 hK K
        refine putN ?_
        exact norm_ (by simp only [putAll, Act.put, List.setIfInBounds_toArray, List.set_cons_zero, List.set_cons_succ]) (hCont (gp, (A1, c1), (A2, c2)) _ ⟨hHeld, HB3.out, HBX.out, HG.out, HO3.out⟩)
      · refine box_step ?hg (N := 6) ?hd (cs := #[.int .i64 0, .int .i64 0, .int .i64 0, .int .i64 0, .string ⟨#[]⟩, .slice none 0 0]) (t := 29) ?hr ?_; (case hd => rfl); (case hg => rfl); (case hr => first | (go_simp; done) | (go_simp; rfl))
        intro gp hg wb hbox hbb
        have HBX := Aside0.mk hbox
        have HB2 := Aside0.mk (below_step HB1.out hbb)
        have HO2 := Aside0.mk (Kd.R_below HO1.out hbb)
        have HG := Aside0.mk (show wd.heap.size ≤ gp by rw [hg]; exact HB1.out.size)
        clear hbox hbb hg
        have hc0 : _ ∧ _ := ⟨(HB2.out.cell (World.block_lt_of_cell? wd _ HX.out.1)).trans HX.out.1, (HB2.out.cell (World.block_lt_of_cell? wd _ HX.out.2)).trans HX.out.2⟩
        refine hK.out _ _ hc0 (fun hHeld => ?_)
        clear hc0 hK K
        refine putN ?_
        refine one_ (i := 5) (N := some 12) #[true, true, true, true, true, true, true, false] rfl rfl (by kernel_rfl) (by decide) (fun K hK => ?_)
        refine goes_ Tryz.func63 (by kernel_rfl) rfl #[.agg #[.int .i64 0, .int .i64 0, .int .i64 0, .int .i64 0, .string ⟨#[]⟩, .slice A1 l.length c1], .int .i64 a, .int .i64 b] (by rfl) rfl rfl argsOk ?_
        with_reducible refine (hunks_counted.calls k 0 0 0 0 ⟨#[]⟩ (fun k_ => some k_ = (.slice A1 l.length c1 : Value).ownBlock) (.slice A1 l.length c1) l a b r1 r2 r3 r4 r5 r6 wd _ ?side1 ?side2 HN.out).mono ?_
        (case side1 => exact HB2.out)
        (case side2 => exact Kd.R_tight rfl HO2.out)
        rintro e w2_ ⟨v2_, rfl, ho2, hb2, hkp⟩
        refine ⟨_, rfl, ?_⟩
        have HO3 := Aside0.mk (Kd.R_mono (ok' := fun _ => True) ho2 (fun _ _ => trivial))
        have HB3 := Aside0.mk hb2
        have HBY := Aside0.mk (blk_kept HBX.out hkp (fun e_ => (Kd.R_ne HO2.out HBX.out (by decide)) e_))
        clear ho2 hb2 hkp HBX
        obtain ⟨A2, c2, rfl⟩ := Kd.R_slice HO3.out
        have hc0 : _ ∧ _ := ⟨(HB3.out.cell (World.block_lt_of_cell? wd _ HX.out.1)).trans HX.out.1, (HB3.out.cell (World.block_lt_of_cell? wd _ HX.out.2)).trans HX.out.2⟩
        refine hK.out _ _ hc0 (fun hHeld => ?_)
        clear hc0 hK K
        refine putN ?_
        exact norm_ (by simp only [putAll, Act.put, List.setIfInBounds_toArray, List.set_cons_zero, List.set_cons_succ]) (hCont (gp, (A1, c1), (A2, c2)) _ ⟨hHeld, HB3.out, HBY.out, HG.out, HO3.out⟩)
    · refine box_step ?hg (N := 6) ?hd (cs := #[.int .i64 0, .int .i64 0, .int .i64 0, .int .i64 0, .string ⟨#[]⟩, .slice none 0 0]) (t := 29) ?hr ?_; (case hd => rfl); (case hg => rfl); (case hr => first | (go_simp; done) | (go_simp; rfl))
      intro gp hg wb hbox hbb
      have HBX := Aside0.mk hbox
      have HB1 := Aside0.mk (below_step (Below.refl wd.heap.size wd) hbb)
      have HG := Aside0.mk (show wd.heap.size ≤ gp by rw [hg]; exact Nat.le_refl _)
      have HRE := Aside0.mk (Kd.C_below HRD.out hbb)
      clear hbox hbb hg
      have hc0 : _ ∧ _ := ⟨(HB1.out.cell (World.block_lt_of_cell? wd _ HX.out.1)).trans HX.out.1, (HB1.out.cell (World.block_lt_of_cell? wd _ HX.out.2)).trans HX.out.2⟩
      refine hK.out _ _ hc0 (fun hHeld => ?_)
      clear hc0 hK K
      refine putN ?_
      refine one_ (i := 1) (N := some 8) #[true, true, false, true, true, false, true, false] rfl rfl (by kernel_rfl) (by decide) (fun K hK => ?_)
      refine goes_ Tryz.func61 (by kernel_rfl) rfl #[.slice A l.length c] (by rfl) rfl rfl argsOk ?_
      with_reducible refine (api_Row.calls _ _ l l _ ?side1 HC.out HCL.out).mono ?_
      (case side1 => exact HRE.out)
      rintro e w_ ⟨v_, rfl, ho, hb⟩
      refine ⟨_, rfl, ?_⟩
      have HO2 := Aside0.mk (Kd.R_lower ho HB1.out.size)
      have HB2 := Aside0.mk (below_step HB1.out hb)
      have HBY := Aside0.mk (blk_below HBX.out hb)
      clear ho hb HBX
      obtain ⟨A1, c1, rfl⟩ := Kd.R_slice HO2.out
      have hc0 : _ ∧ _ := ⟨(HB2.out.cell (World.block_lt_of_cell? wd _ HX.out.1)).trans HX.out.1, (HB2.out.cell (World.block_lt_of_cell? wd _ HX.out.2)).trans HX.out.2⟩
      refine hK.out _ _ hc0 (fun hHeld => ?_)
      clear hc0 hK K
      refine putN ?_
      refine pureK 2 ?_
      refine one_ (i := 5) (N := some 12) #[true, true, true, true, true, true, true, false] rfl rfl (by kernel_rfl) (by decide) (fun K hK => ?_)
      refine goes_ Tryz.func63 (by kernel_rfl) rfl #[.agg #[.int .i64 0, .int .i64 0, .int .i64 0, .int .i64 0, .string ⟨#[]⟩, .slice A1 l.length c1], .int .i64 a, .int .i64 b] (by rfl) rfl rfl argsOk ?_
      with_reducible refine (hunks_counted.calls k 0 0 0 0 ⟨#[]⟩ (fun k_ => some k_ = (.slice A1 l.length c1 : Value).ownBlock) (.slice A1 l.length c1) l a b r1 r2 r3 r4 r5 r6 wd _ ?side1 ?side2 HN.out).mono ?_
      (case side1 => exact HB2.out)
      (case side2 => exact Kd.R_tight rfl HO2.out)
      rintro e w2_ ⟨v2_, rfl, ho2, hb2, hkp⟩
      refine ⟨_, rfl, ?_⟩
      have HO3 := Aside0.mk (Kd.R_mono (ok' := fun _ => True) ho2 (fun _ _ => trivial))
      have HB3 := Aside0.mk hb2
      have HBZ := Aside0.mk (blk_kept HBY.out hkp (fun e_ => (Kd.R_ne HO2.out HBY.out (by decide)) e_))
      clear ho2 hb2 hkp HBY
      obtain ⟨A2, c2, rfl⟩ := Kd.R_slice HO3.out
      have hc0 : _ ∧ _ := ⟨(HB3.out.cell (World.block_lt_of_cell? wd _ HX.out.1)).trans HX.out.1, (HB3.out.cell (World.block_lt_of_cell? wd _ HX.out.2)).trans HX.out.2⟩
      refine hK.out _ _ hc0 (fun hHeld => ?_)
      clear hc0 hK K
      refine putN ?_
      exact norm_ (by simp only [putAll, Act.put, List.setIfInBounds_toArray, List.set_cons_zero, List.set_cons_succ]) (hCont (gp, (A1, c1), (A2, c2)) _ ⟨hHeld, HB3.out, HBZ.out, HG.out, HO3.out⟩)
  · rintro ⟨gp, ⟨A1, c1⟩, ⟨A2, c2⟩⟩ w3 ⟨hHeld3, hB3, hBX, hG, hR3⟩
    -- PART2
    have HP3 := Aside0.mk (show NarP w0 wd.heap.size gh go ga gb gp h vr vo out a b _ (.slice A2 r6.length c2) r6 w3 from ⟨HD.out.then hB3, Kd.S_below HD.out.old hB3, hR3, hBX, hG, HD.out.below.size, blk_lt HD.out.bh⟩)
    have z0 := (blk_cell hBX 0).trans rfl
    have z1 := (blk_cell hBX 1).trans rfl
    have z2 := (blk_cell hBX 2).trans rfl
    have z3 := (blk_cell hBX 3).trans rfl
    have z4 := (blk_cell hBX 4).trans rfl
    have z5 := (blk_cell hBX 5).trans rfl
    have f0 := blk_frozen hBX 0
    have f1 := blk_frozen hBX 1
    have f2 := blk_frozen hBX 2
    have f3 := blk_frozen hBX 3
    have f4 := blk_frozen hBX 4
    have f5 := blk_frozen hBX 5
    clear hBX hB3 hG hR3 hHeld3
    refine norm_ (a' := ?_) ?_ ?_
    rotate_left
    · simp only [putAll, Act.put, List.setIfInBounds_toArray, List.set_cons_zero, List.set_cons_succ]
      rfl
    refine last_ (i := 7) (N := none) #[true, true, true, true, true, true, true, true] rfl rfl (by kernel_rfl) (by decide) ?_
    intro K hK
    refine skip_ (w1 := ?_) (by rfl) rfl ?_ ?_
    rotate_left
    · go_simp
      rfl
    refine hK.out _ _ ?_
    clear hK K z0 z1 z2 z3 z4 z5 f0 f1 f2 f3 f4 f5
    refine done_ (by kernel_rfl) ?_
    have HP4 := Aside0.mk (((((((HP3.out.set 0 (.int .i64 r1)).set 1 (.int .i64 r2)).set 2 (.int .i64 r3)).set 3 (.int .i64 r4)).set 4 (.string r5)).set 5 (.slice A2 r6.length c2)).cast (cs' := #[.int .i64 r1, .int .i64 r2, .int .i64 r3, .int .i64 r4, .string r5, .slice A2 r6.length c2]) rfl)
    clear HP3
    generalize (((((w3.setCell ⟨gp, 0, none⟩ (.int .i64 r1)).setCell ⟨gp, 1, none⟩ (.int .i64 r2)).setCell ⟨gp, 2, none⟩ (.int .i64 r3)).setCell ⟨gp, 3, none⟩ (.int .i64 r4)).setCell ⟨gp, 4, none⟩ (.string r5)).setCell ⟨gp, 5, none⟩ (.slice A2 r6.length c2) = W4 at HP4 ⊢
    obtain ⟨Ao, co, rfl⟩ := Kd.S_slice HP4.out.o
    have c_o := HP4.out.i.cells.1
    have ch4 : W4.cell? ⟨gh, 4, none⟩ = some (.string h.f4) := (blk_cell HP4.out.i.bh 4).trans rfl
    have cp4 := (blk_cell HP4.out.bp 4).trans rfl
    have fp4 := blk_frozen HP4.out.bp 4
    by_cases hz : out.length = 0
    · have HP := Aside0.mk (show (⟨r1, r2, r3, r4, h.f4, r6⟩ : S29) = p by rw [← HP.out, if_pos hz])
      have kb : ((out.length : Int) == 0) = true := beq_iff_eq.mpr (by omega)
      clear hz
      go_upto_region 3 with (fail)
      have HP5 := Aside0.mk ((HP4.out.set 4 (.string h.f4)).cast (cs' := #[.int .i64 r1, .int .i64 r2, .int .i64 r3, .int .i64 r4, .string h.f4, .slice A2 r6.length c2]) rfl)
      clear c_o ch4 cp4 fp4 HP4 kb
      generalize W4.setCell ⟨gp, 4, none⟩ (.string h.f4) = W4b at HP5 ⊢
      have HP4 := HP5
      clear HP5
      have c_o := HP4.out.i.cells.1
      have q0 := (blk_cell HP4.out.bp 0).trans rfl
      have q1 := (blk_cell HP4.out.bp 1).trans rfl
      have q2 := (blk_cell HP4.out.bp 2).trans rfl
      have q3 := (blk_cell HP4.out.bp 3).trans rfl
      have q4 := (blk_cell HP4.out.bp 4).trans rfl
      have q5 := (blk_cell HP4.out.bp 5).trans rfl
      go_upto_region 4 with ((with_reducible refine gate_builtin (b := .append) (xs := #[.tmp 19, .tmp 21]) rfl ?_); at_builtin; refine Kd.S_append k29 (w0 := w0) w0.heap.size rfl (.tmp 19) (.tmp 21) 22 29 (.agg #[(.int .i64 0), (.int .i64 0), (.int .i64 0), (.int .i64 0), (.string ⟨#[]⟩), (.slice none 0 0)]) 72 rfl Tryz.underlying22 info29 rfl (by decide) (by omega) (.slice Ao out.length co) out (⟨r1, r2, r3, r4, h.f4, r6⟩ : S29) [.int .i64 r1, .int .i64 r2, .int .i64 r3, .int .i64 r4, .string h.f4, .slice A2 r6.length c2] (fun _ => True) (fun k_ => some k_ = (.slice A2 r6.length c2 : Value).ownBlock) rfl rfl ?aP HP4.out.apart2 (fun _ _ => trivial) HP4.out.apart HP4.out.i.below HP4.out.i.below.size ?aL ?_; (case aP => exact k29_mkM _ _ _ (⟨r1, r2, r3, r4, h.f4, r6⟩ : S29) (Kd.R_lower (Kd.R_tight rfl HP4.out.r) HP4.out.g0)); (case aL => have := HLE.out.2; omega); intro v1 w1 ho hb hg hat; obtain ⟨A5, m5, c5, rfl⟩ : (∃ A m k, v1 = .slice A m k) := (by obtain ⟨A, k, e⟩ := Kd.S_slice ho; exact ⟨A, _, k, e⟩); have HS := Aside0.mk (HP4.out.stored hb hg ho hat); have d := blk_grown HP4.out.i.bo hg (Kd.S_ne HP4.out.i.o HP4.out.i.bo (by decide)); have hs5 := (blk_cell d 0).trans rfl; have hf5 := blk_frozen d 0; clear d ho hb hg hat)
      clear hs5 hf5
      obtain ⟨HS1, HS2⟩ := HS.out
      have HS1 := Aside0.mk HS1
      have HS2 := Aside0.mk HS2
      clear HS
      generalize w1.setCell ⟨go, 0, none⟩ (.slice A5 m5 c5) = W5 at HS1 HS2 ⊢
      have y0 := (blk_cell HS2.out 1).trans rfl
      have y1 := HS1.out.cells.2.1
      have y2 := blk_frozen HS1.out.ba 0
      go_upto_region 5 with (fail)
      have HT1 := Aside0.mk (HS1.out.setA (wrap64 (a + r2)))
      have HT2 := Aside0.mk (blk_far HS2.out (p := ⟨ga, 0, none⟩) (blk_ne HS2.out HS1.out.ba (by decide)) (.int .i64 (wrap64 (a + r2))))
      clear y0 y1 y2 HS1 HS2
      generalize W5.setCell ⟨ga, 0, none⟩ (.int .i64 (wrap64 (a + r2))) = W6 at HT1 HT2 ⊢
      have y0 := (blk_cell HT2.out 3).trans rfl
      have y1 := HT1.out.cells.2.2
      have y2 := blk_frozen HT1.out.bb 0
      go_wp2
      go_end0
      exact ⟨rfl, _, by rw [← HP.out]; exact HT1.out.setB (wrap64 (b + r4))⟩
    · have HP := Aside0.mk (show (⟨r1, r2, r3, r4, r5, r6⟩ : S29) = p by rw [← HP.out, if_neg hz])
      have kb : ((out.length : Int) == 0) = false := beq_eq_false_iff_ne.mpr (by omega)
      clear hz ch4 cp4 fp4
      have q0 := (blk_cell HP4.out.bp 0).trans rfl
      have q1 := (blk_cell HP4.out.bp 1).trans rfl
      have q2 := (blk_cell HP4.out.bp 2).trans rfl
      have q3 := (blk_cell HP4.out.bp 3).trans rfl
      have q4 := (blk_cell HP4.out.bp 4).trans rfl
      have q5 := (blk_cell HP4.out.bp 5).trans rfl
      go_upto_region 4 with ((with_reducible refine gate_builtin (b := .append) (xs := #[.tmp 19, .tmp 21]) rfl ?_); at_builtin; refine Kd.S_append k29 (w0 := w0) w0.heap.size rfl (.tmp 19) (.tmp 21) 22 29 (.agg #[(.int .i64 0), (.int .i64 0), (.int .i64 0), (.int .i64 0), (.string ⟨#[]⟩), (.slice none 0 0)]) 72 rfl Tryz.underlying22 info29 rfl (by decide) (by omega) (.slice Ao out.length co) out (⟨r1, r2, r3, r4, r5, r6⟩ : S29) [.int .i64 r1, .int .i64 r2, .int .i64 r3, .int .i64 r4, .string r5, .slice A2 r6.length c2] (fun _ => True) (fun k_ => some k_ = (.slice A2 r6.length c2 : Value).ownBlock) rfl rfl ?aP HP4.out.apart2 (fun _ _ => trivial) HP4.out.apart HP4.out.i.below HP4.out.i.below.size ?aL ?_; (case aP => exact k29_mkM _ _ _ (⟨r1, r2, r3, r4, r5, r6⟩ : S29) (Kd.R_lower (Kd.R_tight rfl HP4.out.r) HP4.out.g0)); (case aL => have := HLE.out.2; omega); intro v1 w1 ho hb hg hat; obtain ⟨A5, m5, c5, rfl⟩ : (∃ A m k, v1 = .slice A m k) := (by obtain ⟨A, k, e⟩ := Kd.S_slice ho; exact ⟨A, _, k, e⟩); have HS := Aside0.mk (HP4.out.stored hb hg ho hat); have d := blk_grown HP4.out.i.bo hg (Kd.S_ne HP4.out.i.o HP4.out.i.bo (by decide)); have hs5 := (blk_cell d 0).trans rfl; have hf5 := blk_frozen d 0; clear d ho hb hg hat)
      clear hs5 hf5
      obtain ⟨HS1, HS2⟩ := HS.out
      have HS1 := Aside0.mk HS1
      have HS2 := Aside0.mk HS2
      clear HS
      generalize w1.setCell ⟨go, 0, none⟩ (.slice A5 m5 c5) = W5 at HS1 HS2 ⊢
      have y0 := (blk_cell HS2.out 1).trans rfl
      have y1 := HS1.out.cells.2.1
      have y2 := blk_frozen HS1.out.ba 0
      go_upto_region 5 with (fail)
      have HT1 := Aside0.mk (HS1.out.setA (wrap64 (a + r2)))
      have HT2 := Aside0.mk (blk_far HS2.out (p := ⟨ga, 0, none⟩) (blk_ne HS2.out HS1.out.ba (by decide)) (.int .i64 (wrap64 (a + r2))))
      clear y0 y1 y2 HS1 HS2
      generalize W5.setCell ⟨ga, 0, none⟩ (.int .i64 (wrap64 (a + r2))) = W6 at HT1 HT2 ⊢
      have y0 := (blk_cell HT2.out 3).trans rfl
      have y1 := HT1.out.cells.2.2
      have y2 := blk_frozen HT1.out.bb 0
      go_wp2
      go_end0
      exact ⟨rfl, _, by rw [← HP.out]; exact HT1.out.setB (wrap64 (b + r4))⟩
set_option maxHeartbeats 4000000 in
theorem nar2.calls (w0 : World) (gh go ga gb : Nat) (h : S29) (vr vo : Value) (out : List S29) (a b n : Int) (w : World) (hI : NarIn w0 gh go ga gb h vr vo out a b w) :
    Calls Tryz.prog 64 #[.int .i64 n, .pointer (some ⟨ga, 0, none⟩), .pointer (some ⟨gb, 0, none⟩)] w
      fun e w' => e = .returned (.tuple #[]) ∧ NarIn w0 gh go ga gb h vr vo out (wrap64 (a + n)) (wrap64 (b + n)) w' := by
  have HS1 := Aside0.mk hI
  clear hI
  have y1 := HS1.out.cells.2.1
  have y2 := blk_frozen HS1.out.ba 0
  go_enter Tryz.func64, Tryz.ntmps64
  go_upto_region 1 with (fail)
  have HT1 := Aside0.mk (HS1.out.setA (wrap64 (a + n)))
  clear y1 y2 HS1
  generalize w.setCell ⟨ga, 0, none⟩ (.int .i64 (wrap64 (a + n))) = W6 at HT1 ⊢
  have y1 := HT1.out.cells.2.2
  have y2 := blk_frozen HT1.out.bb 0
  go_wp2
  go_end0
  exact ⟨rfl, HT1.out.setB (wrap64 (b + n))⟩
def nb (r : S53) : Bool := r.f0 == 1
def runB : List S53 → Nat
  | [] => 0
  | r :: t => if nb r = true then runB t + 1 else 0
def runC : List S53 → Nat
  | [] => 0
  | r :: t => if nb r = true then 0 else runC t + 1
theorem runB_le : ∀ l : List S53, runB l ≤ l.length
  | [] => Nat.le_refl _
  | r :: t => by have := runB_le t; unfold runB; split <;> simp <;> omega
theorem runC_le : ∀ l : List S53, runC l ≤ l.length
  | [] => Nat.le_refl _
  | r :: t => by have := runC_le t; unfold runC; split <;> simp <;> omega
def seg (rows : List S53) (i j : Nat) : List S53 := (rows.take j).drop i
def tailR (rows : List S53) (i : Nat) : List S53 := rows.drop i
def nxt (rows : List S53) (q : Nat) : Nat := q + runB (rows.drop q) + runC (rows.drop (q + runB (rows.drop q)))
def narL (k c : Nat) (hd : ByteArray) (rows : List S53) : Nat → Nat → Nat → Int → Int → List S29 → Option (List S29)
  | 0, _, _, _, _, _ => none
  | f + 1, q, frm, a, b, out =>
    if q < rows.length then
      if q = 0 then narL k c hd rows f (nxt rows q) (runB (rows.drop q) - c) (wrap64 (a + ((runB (rows.drop q) - c : Nat) : Int))) (wrap64 (b + ((runB (rows.drop q) - c : Nat) : Int))) out
      else if q + runB (rows.drop q) = rows.length then (pieceF k hd (seg rows frm (q + min (runB (rows.drop q)) c)) a b out).map fun p => out ++ [p]
      else if 2 * c < runB (rows.drop q) then (pieceF k hd (seg rows frm (q + c)) a b out).bind fun p =>
        narL k c hd rows f (nxt rows q) (q + runB (rows.drop q) - c) (wrap64 (wrap64 (a + p.f1) + ((runB (rows.drop q) - 2 * c : Nat) : Int))) (wrap64 (wrap64 (b + p.f3) + ((runB (rows.drop q) - 2 * c : Nat) : Int))) (out ++ [p])
      else narL k c hd rows f (nxt rows q) frm a b out
    else (pieceF k hd (tailR rows frm) a b out).map fun p => out ++ [p]
theorem runB_at (l : List S53) (i : Nat) (h : i < l.length) : runB (l.drop i) = if (rd_T53 l (i : Int)).f0 = 1 then runB (l.drop (i + 1)) + 1 else 0 := by
  have e : l.drop i = rd_T53 l (i : Int) :: l.drop (i + 1) := by
    show _ = l.getD ((i : Int)).toNat _ :: _
    rw [Int.toNat_natCast, List.getD_eq_getElem?_getD, List.getElem?_eq_getElem h]
    exact List.drop_eq_getElem_cons h
  rw [e, runB]
  unfold nb
  by_cases hk : (rd_T53 l (i : Int)).f0 = 1
  · rw [if_pos (by simpa using hk), if_pos hk]
  · rw [if_neg (by simpa using hk), if_neg hk]
theorem runC_at (l : List S53) (i : Nat) (h : i < l.length) : runC (l.drop i) = if (rd_T53 l (i : Int)).f0 = 1 then 0 else runC (l.drop (i + 1)) + 1 := by
  have e : l.drop i = rd_T53 l (i : Int) :: l.drop (i + 1) := by
    show _ = l.getD ((i : Int)).toNat _ :: _
    rw [Int.toNat_natCast, List.getD_eq_getElem?_getD, List.getElem?_eq_getElem h]
    exact List.drop_eq_getElem_cons h
  rw [e, runC]
  unfold nb
  by_cases hk : (rd_T53 l (i : Int)).f0 = 1
  · rw [if_pos (by simpa using hk), if_pos hk]
  · rw [if_neg (by simpa using hk), if_neg hk]
theorem run_end (l : List S53) (i : Nat) (h : l.length ≤ i) : runB (l.drop i) = 0 ∧ runC (l.drop i) = 0 := by rw [List.drop_of_length_le h]; exact ⟨rfl, rfl⟩
theorem runB_room (l : List S53) (i : Nat) (h : i ≤ l.length) : i + runB (l.drop i) ≤ l.length := by have := runB_le (l.drop i); rw [List.length_drop] at this; omega
theorem runC_room (l : List S53) (i : Nat) (h : i ≤ l.length) : i + runC (l.drop i) ≤ l.length := by have := runC_le (l.drop i); rw [List.length_drop] at this; omega
theorem nxt_room (l : List S53) (i : Nat) (h : i ≤ l.length) : i + runB (l.drop i) ≤ nxt l i ∧ nxt l i ≤ l.length := by
  have h1 := runB_room l i h
  have h2 := runC_room l _ h1
  unfold nxt; omega
theorem cut_seg (A : Option Addr) (c0 : Nat) (rows : List S53) (i j : Nat) (h1 : i ≤ j) (h2 : j ≤ rows.length) (hc : rows.length ≤ c0) :
    ∃ A' : Option Addr, (∀ W : World, (Instr.slice 27 (.slice A rows.length c0) (some (.int .i64 (i : Int))) (some (.int .i64 (j : Int))) none).run Tryz.prog W = .ok (.slice A' (seg rows i j).length (c0 - i)) W) ∧
      (∀ w : World, k53.C w A rows.length rows → k53.C w A' (seg rows i j).length (seg rows i j)) ∧ (seg rows i j).length ≤ c0 - i := by
  obtain ⟨i0, hi0, _, hsz, _⟩ := info_parts info53
  have hl : (seg rows i j).length = j - i := by unfold seg; rw [List.length_drop, List.length_take]; omega
  have hcut := cut_mid (P := Tryz.prog) 27 53 .i64 .i64 Tryz.underlying27 hi0 2 hsz A rows.length c0 (i : Int) (j : Int) (by omega) (by omega) (by omega) hc
  simp only [Int.toNat_natCast] at hcut
  refine ⟨if c0 = i then A else A.map (·.add (i * 2)), fun W => ?_, fun w h => ?_, by rw [hl]; omega⟩
  · rw [hl]; exact hcut W
  · exact Kd.C_mid (lo := i) (hi := j) h (by omega) (by omega) hc
theorem cut_tail (A : Option Addr) (c0 : Nat) (rows : List S53) (i : Nat) (h1 : i ≤ rows.length) (hc : rows.length ≤ c0) :
    ∃ A' : Option Addr, (∀ W : World, (Instr.slice 27 (.slice A rows.length c0) (some (.int .i64 (i : Int))) none none).run Tryz.prog W = .ok (.slice A' (tailR rows i).length (c0 - i)) W) ∧
      (∀ w : World, k53.C w A rows.length rows → k53.C w A' (tailR rows i).length (tailR rows i)) ∧ (tailR rows i).length ≤ c0 - i := by
  obtain ⟨i0, hi0, _, hsz, _⟩ := info_parts info53
  have hl : (tailR rows i).length = rows.length - i := by unfold tailR; exact List.length_drop
  have hcut := cut_from (P := Tryz.prog) 27 53 .i64 Tryz.underlying27 hi0 2 hsz A rows.length c0 (i : Int) (by omega) (by omega)
  simp only [Int.toNat_natCast] at hcut
  refine ⟨if c0 = i then A else A.map (·.add (i * 2)), fun W => ?_, fun w h => ?_, by rw [hl]; omega⟩
  · rw [hl]; exact hcut W
  · have := Kd.C_mid (lo := i) (hi := rows.length) (c := c0) h (by omega) (by omega) hc
    rw [List.take_length] at this
    exact this
def aheadN (a n : Int) : Int := if n > 0 then wrap64 (a - 1) else a
theorem aheadN_eq (a n : Int) : hunks_ahead.f a n = some (aheadN a n) := by unfold hunks_ahead.f aheadN; split <;> rfl
def hunks_Narrow.f (k : Nat) (a0 a1 a2 a3 : Int) (a4 : ByteArray) (l5 : List S53) (a5 : Int) : Option (List S29 × Option Int) :=
  if a5 < 0 then some ([], some 1) else if 2147483647 < a5 then some ([], some 1) else
  (hunks_Valid.f a0 a1 a2 a3 a4 l5).bind fun e => if e.isNone = true then
    (if l5.length ≤ 1000000000 then (narL k a5.toNat a4 l5 (l5.length + 1) 0 0 (aheadN a0 a1) (aheadN a2 a3) []).map fun r => (r, none) else none) else some ([], e)
structure NarSt (w0 : World) (gh go : Nat) (h : S29) (vr : Value) (w : World) : Prop where
  below : Below w0.heap.size w0 w
  bh : w.heap[gh]? = some (.cells (hunkC h vr) 29 (0, 0))
  bo : w.heap[go]? = some (.cells #[.slice none 0 0] 22 (0, 0))
  lh : w0.heap.size ≤ gh
  lo : w0.heap.size ≤ go
theorem NarSt.drew {w0 w : World} {gh go : Nat} {h : S29} {vr : Value} (i : NarSt w0 gh go h vr w) : NarSt w0 gh go h vr w.drew := ⟨below_drew1 i.below, blk_drew i.bh, blk_drew i.bo, i.lh, i.lo⟩
theorem NarSt.both {w0 w w1 : World} {gh go ga gb : Nat} {h : S29} {vr : Value} (i : NarSt w0 gh go h vr w) (hb : Below w.heap.size w w1) (ha : w1.heap[ga]? = some (.cells #[.int .i64 0] 3 (0, 0))) (hb2 : w1.heap[gb]? = some (.cells #[.int .i64 0] 3 (0, 0))) (la : w.heap.size ≤ ga) (lb : w.heap.size ≤ gb) (n : ga ≠ gb) :
    NarIn w0 gh go ga gb h vr (.slice none 0 0) [] 0 0 w1 :=
  ⟨below_step i.below hb, Kd.S_nil _ _ _ _ _, blk_below i.bh hb, blk_below i.bo hb, ha, hb2, i.lh, i.lo, Nat.le_trans i.below.size la, Nat.le_trans i.below.size lb, n, by simp [Value.ownBlock]⟩
theorem NarIn.rows {w0 w : World} {gh go ga gb : Nat} {h : S29} {vr vo : Value} {out : List S29} {a b : Int} (i : NarIn w0 gh go ga gb h vr vo out a b w) : w.cell? ⟨gh, 5, none⟩ = some vr := (blk_cell i.bh 5).trans rfl
theorem NarIn.head {w0 w : World} {gh go ga gb : Nat} {h : S29} {vr vo : Value} {out : List S29} {a b : Int} (i : NarIn w0 gh go ga gb h vr vo out a b w) :
    w.cell? ⟨gh, 0, none⟩ = some (.int .i64 h.f0) ∧ w.cell? ⟨gh, 1, none⟩ = some (.int .i64 h.f1) ∧ w.cell? ⟨gh, 2, none⟩ = some (.int .i64 h.f2) ∧ w.cell? ⟨gh, 3, none⟩ = some (.int .i64 h.f3) :=
  ⟨(blk_cell i.bh 0).trans rfl, (blk_cell i.bh 1).trans rfl, (blk_cell i.bh 2).trans rfl, (blk_cell i.bh 3).trans rfl⟩
set_option maxHeartbeats 16000000 in
set_option maxRecDepth 100000 in
theorem hunks_Narrow.calls (k : Nat) (a0 a1 a2 a3 : Int) (a4 : ByteArray) (A5 : Option Addr) (c5 : Nat) (l5 : List S53) (a5 : Int) (r1 : List S29) (r2 : Option Int) (w : World) (hr5 : Kd.C k53 w A5 l5.length l5) (hc5 : l5.length ≤ c5) (h : hunks_Narrow.f k a0 a1 a2 a3 a4 l5 a5 = some (r1, r2)) :
    Calls Tryz.prog 26 #[.agg #[.int .i64 a0, .int .i64 a1, .int .i64 a2, .int .i64 a3, .string a4, .slice A5 l5.length c5], .int .i64 a5] w fun e w' => ∃ v0_ : Value, e = .returned (.tuple #[v0_, errW r2]) ∧ Kd.S k29 29 w' w.heap.size (fun _ => True) v0_ r1 ∧ Below w.heap.size w w' := by
  have hu29 := Tryz.underlying29
  have hmf : ∀ (fn : Fn) (first cap : Array Value) (w : World), (Instr.makeFunc fn first cap).run Tryz.prog w = .ok (.func fn first cap) w := fun _ _ _ _ => rfl
  have HR := Aside0.mk hr5
  have HC := Aside0.mk hc5
  clear hr5 hc5
  unfold hunks_Narrow.f at h
  by_cases d1 : a5 < 0
  · rw [if_pos d1] at h
    simp only [Option.some.injEq, Prod.mk.injEq] at h
    obtain ⟨rfl, rfl⟩ := h
    have d1b := decide_eq_true d1
    clear d1
    go_enter Tryz.func26, Tryz.ntmps26
    go_wp2
    go_ret2
    exact ⟨_, rfl, Kd.S_nil _ _ _ _ _, by repeat (first | exact Below.refl _ _ | apply below_alloc)⟩
  rw [if_neg d1] at h
  have d1b := decide_eq_false d1
  by_cases d2 : 2147483647 < a5
  · rw [if_pos d2] at h
    simp only [Option.some.injEq, Prod.mk.injEq] at h
    obtain ⟨rfl, rfl⟩ := h
    have d2b := decide_eq_true d2
    clear d1 d2
    go_enter Tryz.func26, Tryz.ntmps26
    go_wp2
    go_ret2
    exact ⟨_, rfl, Kd.S_nil _ _ _ _ _, by repeat (first | exact Below.refl _ _ | apply below_alloc)⟩
  rw [if_neg d2] at h
  have d2b := decide_eq_false d2
  obtain ⟨c, rfl⟩ : ∃ c : Nat, a5 = (c : Int) := ⟨a5.toNat, by omega⟩
  have hcb : c ≤ 2147483647 := by omega
  clear d1 d2
  obtain ⟨e, hV, h⟩ := Option.bind_eq_some_iff.mp h
  have HV := Aside0.mk hV
  clear hV
  cases e with
  | some x =>
    rw [if_neg (by simp)] at h
    simp only [Option.some.injEq, Prod.mk.injEq] at h
    obtain ⟨rfl, rfl⟩ := h
    go_enter Tryz.func26, Tryz.ntmps26
    go_upto_region 3 with (fail)
    have HB := Aside0.mk (below_alloc (Below.refl w.heap.size w) (Obj.cells #[Value.int IntKind.i64 a0, Value.int IntKind.i64 a1, Value.int IntKind.i64 a2, Value.int IntKind.i64 a3, Value.string a4, Value.slice A5 l5.length c5] 29))
    go_wp2_with (go_at_call 12; (with_reducible refine (hunks_Valid.calls a0 a1 a2 a3 a4 _ _ l5 (some x) _ ?s1 HC.out HV.out).mono ?_); (case s1 => exact Kd.C_below HR.out HB.out); rintro e w2 ⟨rfl, hb⟩; have HB2 := Aside0.mk (below_step HB.out hb); clear hb HB; simp only [errW_some])
    go_ret2
    exact ⟨_, by first | rfl | simp [errW_some], Kd.S_nil _ _ _ _ _, HB2.out⟩
  | none =>
    rw [if_pos (show (none : Option Int).isNone = true from rfl)] at h
    split at h
    case isFalse => cases h
    rename_i hlen
    obtain ⟨r, hn, hrr⟩ := Option.map_eq_some_iff.mp h
    simp only [Prod.mk.injEq] at hrr
    obtain ⟨rfl, rfl⟩ := hrr
    rw [Int.toNat_natCast] at hn
    have HN := Aside0.mk hn
    have HLEN := Aside0.mk hlen
    clear h hn hlen
    go_enter Tryz.func26, Tryz.ntmps26
    go_upto_region 3 with (fail)
    have HB := Aside0.mk (below_alloc (Below.refl w.heap.size w) (Obj.cells #[Value.int IntKind.i64 a0, Value.int IntKind.i64 a1, Value.int IntKind.i64 a2, Value.int IntKind.i64 a3, Value.string a4, Value.slice A5 l5.length c5] 29))
    have BH := Aside0.mk (blk_new w (Obj.cells #[Value.int IntKind.i64 a0, Value.int IntKind.i64 a1, Value.int IntKind.i64 a2, Value.int IntKind.i64 a3, Value.string a4, Value.slice A5 l5.length c5] 29))
    have GH : Aside0 (w.heap.size ≤ w.heap.size) := ⟨Nat.le_refl _⟩
    go_upto_region 6 with (go_at_call 12; (with_reducible refine (hunks_Valid.calls a0 a1 a2 a3 a4 _ _ l5 none _ ?s1 HC.out HV.out).mono ?_); (case s1 => exact Kd.C_below HR.out HB.out); rintro e w2 ⟨rfl, hb⟩; have HB2 := Aside0.mk (below_step HB.out hb); have BH2 := Aside0.mk (blk_below BH.out hb); clear hb HB BH; simp only [errW_none])
    go_upto_region 7 with (fail)
    have HI := Aside0.mk (show NarSt w w.heap.size w2.heap.size ⟨a0, a1, a2, a3, a4, l5⟩ (.slice A5 l5.length c5) (w2.alloc (Obj.cells #[Value.slice none 0 0] 22)) from ⟨below_alloc HB2.out _, blk_alloc BH2.out _, blk_new _ _, Nat.le_refl _, HB2.out.size⟩)
    generalize w2.heap.size = go at HI ⊢
    generalize w2.alloc (Obj.cells #[Value.slice none 0 0] 22) = W1 at HI ⊢
    clear HB2 BH2
    have hh : W1.cell? ⟨w.heap.size, 0, none⟩ = some (.int .i64 a0) ∧ W1.cell? ⟨w.heap.size, 1, none⟩ = some (.int .i64 a1) ∧ W1.cell? ⟨w.heap.size, 2, none⟩ = some (.int .i64 a2) ∧ W1.cell? ⟨w.heap.size, 3, none⟩ = some (.int .i64 a3) := ⟨(blk_cell HI.out.bh 0).trans rfl, (blk_cell HI.out.bh 1).trans rfl, (blk_cell HI.out.bh 2).trans rfl, (blk_cell HI.out.bh 3).trans rfl⟩
    generalize hgh : w.heap.size = gh at HI hh ⊢
    refine start_ (n := 14) (ds := []) (S := fun w' => w'.cell? ⟨gh, 0, none⟩ = some (.int .i64 a0) ∧ w'.cell? ⟨gh, 1, none⟩ = some (.int .i64 a1) ∧ w'.cell? ⟨gh, 2, none⟩ = some (.int .i64 a2) ∧ w'.cell? ⟨gh, 3, none⟩ = some (.int .i64 a3)) #[false, false, false, false, false, false, false, false, false, false, false, false, false, false] (by kernel_rfl) rfl rfl hh (fun hHeld => ?_)
    have HI2 := Aside0.mk (HI.out.drew)
    clear HI hh
    generalize W1.drew = wd at HI2 hHeld ⊢
    refine pureK 0 ?_
    refine pureK 2 ?_
    refine pureK 5 ?_
    refine pureK 7 ?_
    refine takeK 1 hHeld ?_
    refine takeK 3 hHeld ?_
    refine takeK 6 hHeld ?_
    refine takeK 8 hHeld ?_
    have HX := Aside0.mk hHeld
    refine join_ (σ := Nat × Nat) 2 #[true, true, true, true, true, true, true, true, true, true, true, true, false, false] (fun s => [(32, .int .i64 (aheadN a0 a1)), (37, .int .i64 (aheadN a2 a3)), (8, .pointer (some ⟨s.1, 0, none⟩)), (9, .pointer (some ⟨s.2, 0, none⟩))])
      (fun s w' => (w'.cell? ⟨gh, 0, none⟩ = some (.int .i64 a0) ∧ w'.cell? ⟨gh, 1, none⟩ = some (.int .i64 a1) ∧ w'.cell? ⟨gh, 2, none⟩ = some (.int .i64 a2) ∧ w'.cell? ⟨gh, 3, none⟩ = some (.int .i64 a3)) ∧ Below wd.heap.size wd w' ∧ w'.heap[s.1]? = some (.cells #[.int .i64 0] 3 (0, 0)) ∧ w'.heap[s.2]? = some (.cells #[.int .i64 0] 3 (0, 0)) ∧ wd.heap.size ≤ s.1 ∧ wd.heap.size ≤ s.2 ∧ s.1 ≠ s.2) ?_ ?_
    rotate_left
    · intro hCont
      have HB0 := Aside0.mk (Below.refl wd.heap.size wd)
      refine three_ (i := 4) (j := 10) (k := 11) (Ni := some 32) (Nj := some 8) (Nk := some 9) #[true, true, true, true, true, true, true, true, true, false, false, false, false, false] #[true, true, true, true, false, true, true, true, true, false, true, false, false, false] #[true, true, true, true, false, true, true, true, true, false, false, true, false, false] rfl rfl rfl rfl rfl rfl (by kernel_rfl) (by decide) (by decide) (by decide) (fun K hK => ?_) (fun K hK => ?_) (fun K hK => ?_)
      · refine goes_ Tryz.func46 (by kernel_rfl) rfl #[.int .i64 a0, .int .i64 a1] (by rfl) rfl rfl argsOk ?_
        with_reducible refine (hunks_ahead.calls a0 a1 _ _ (aheadN_eq a0 a1)).mono ?_
        rintro e w_ ⟨rfl, hd⟩
        refine ⟨_, rfl, ?_⟩
        have hbb := hd.below
        clear hd
        have HB1 := Aside0.mk (below_step HB0.out hbb)
        clear hbb
        have hc0 : _ ∧ _ ∧ _ ∧ _ := ⟨(HB1.out.cell (World.block_lt_of_cell? wd _ HX.out.1)).trans HX.out.1, (HB1.out.cell (World.block_lt_of_cell? wd _ HX.out.2.1)).trans HX.out.2.1, (HB1.out.cell (World.block_lt_of_cell? wd _ HX.out.2.2.1)).trans HX.out.2.2.1, (HB1.out.cell (World.block_lt_of_cell? wd _ HX.out.2.2.2)).trans HX.out.2.2.2⟩
        refine hK.out _ _ hc0 (fun hHeld => ?_)
        clear hc0 hK K
        refine putN ?_
        refine three_ (i := 9) (j := 10) (k := 11) (Ni := some 37) (Nj := some 8) (Nk := some 9) #[true, true, true, true, true, true, true, true, true, true, false, false, false, false] #[true, true, true, true, true, true, true, true, true, false, true, false, false, false] #[true, true, true, true, true, true, true, true, true, false, false, true, false, false] rfl rfl rfl rfl rfl rfl (by kernel_rfl) (by decide) (by decide) (by decide) (fun K hK => ?_) (fun K hK => ?_) (fun K hK => ?_)
        · refine goes_ Tryz.func46 (by kernel_rfl) rfl #[.int .i64 a2, .int .i64 a3] (by rfl) rfl rfl argsOk ?_
          with_reducible refine (hunks_ahead.calls a2 a3 _ _ (aheadN_eq a2 a3)).mono ?_
          rintro e w_ ⟨rfl, hd⟩
          refine ⟨_, rfl, ?_⟩
          have hbb := hd.below
          clear hd
          have HB2 := Aside0.mk (below_step HB1.out hbb)
          clear hbb
          have hc0 : _ ∧ _ ∧ _ ∧ _ := ⟨(HB2.out.cell (World.block_lt_of_cell? wd _ HX.out.1)).trans HX.out.1, (HB2.out.cell (World.block_lt_of_cell? wd _ HX.out.2.1)).trans HX.out.2.1, (HB2.out.cell (World.block_lt_of_cell? wd _ HX.out.2.2.1)).trans HX.out.2.2.1, (HB2.out.cell (World.block_lt_of_cell? wd _ HX.out.2.2.2)).trans HX.out.2.2.2⟩
          refine hK.out _ _ hc0 (fun hHeld => ?_)
          clear hc0 hK K
          refine putN ?_
          refine two_ (i := 10) (j := 11) (Ni := some 8) (Nj := some 9) #[true, true, true, true, true, true, true, true, true, true, true, false, false, false] #[true, true, true, true, true, true, true, true, true, true, false, true, false, false] rfl rfl rfl rfl (by kernel_rfl) (by decide) (by decide) (fun K hK => ?_) (fun K hK => ?_)
          · refine box_step ?hg (N := 8) ?hd (cs := #[.int .i64 0]) (t := 3) ?hr ?_; (case hd => rfl); (case hg => rfl); (case hr => first | (go_simp; done) | (go_simp; rfl))
            intro g3 hg w_ hbox hbb
            have HB3 := Aside0.mk (below_step HB2.out hbb)
            have BX3 := Aside0.mk hbox
            have GE3 := Aside0.mk (show wd.heap.size ≤ g3 by rw [hg]; exact HB2.out.size)
            clear hbox hbb hg
            have hc0 : _ ∧ _ ∧ _ ∧ _ := ⟨(HB3.out.cell (World.block_lt_of_cell? wd _ HX.out.1)).trans HX.out.1, (HB3.out.cell (World.block_lt_of_cell? wd _ HX.out.2.1)).trans HX.out.2.1, (HB3.out.cell (World.block_lt_of_cell? wd _ HX.out.2.2.1)).trans HX.out.2.2.1, (HB3.out.cell (World.block_lt_of_cell? wd _ HX.out.2.2.2)).trans HX.out.2.2.2⟩
            refine hK.out _ _ hc0 (fun hHeld => ?_)
            clear hc0 hK K
            refine putN ?_
            refine one_ (i := 11) (N := some 9) #[true, true, true, true, true, true, true, true, true, true, true, true, false, false] rfl rfl (by kernel_rfl) (by decide) (fun K hK => ?_)
            refine box_step ?hg (N := 9) ?hd (cs := #[.int .i64 0]) (t := 3) ?hr ?_; (case hd => rfl); (case hg => rfl); (case hr => first | (go_simp; done) | (go_simp; rfl))
            intro g4 hg w_ hbox hbb
            have HB4 := Aside0.mk (below_step HB3.out hbb)
            have BX3_4 := Aside0.mk (blk_below BX3.out hbb)
            have BX4 := Aside0.mk hbox
            have GE4 := Aside0.mk (show wd.heap.size ≤ g4 by rw [hg]; exact HB3.out.size)
            have NE4 := Aside0.mk (show g3 ≠ g4 by rw [hg]; exact Nat.ne_of_lt (blk_lt BX3.out))
            clear hbox hbb hg
            have hc0 : _ ∧ _ ∧ _ ∧ _ := ⟨(HB4.out.cell (World.block_lt_of_cell? wd _ HX.out.1)).trans HX.out.1, (HB4.out.cell (World.block_lt_of_cell? wd _ HX.out.2.1)).trans HX.out.2.1, (HB4.out.cell (World.block_lt_of_cell? wd _ HX.out.2.2.1)).trans HX.out.2.2.1, (HB4.out.cell (World.block_lt_of_cell? wd _ HX.out.2.2.2)).trans HX.out.2.2.2⟩
            refine hK.out _ _ hc0 (fun hHeld => ?_)
            clear hc0 hK K
            refine putN ?_
            exact norm_ (by simp only [putAll, Act.put, List.setIfInBounds_toArray, List.set_cons_zero, List.set_cons_succ]) (hCont (g3, g4) _ ⟨hHeld, HB4.out, BX3_4.out, BX4.out, GE3.out, GE4.out, NE4.out⟩)
          · refine box_step ?hg (N := 9) ?hd (cs := #[.int .i64 0]) (t := 3) ?hr ?_; (case hd => rfl); (case hg => rfl); (case hr => first | (go_simp; done) | (go_simp; rfl))
            intro g5 hg w_ hbox hbb
            have HB5 := Aside0.mk (below_step HB2.out hbb)
            have BX5 := Aside0.mk hbox
            have GE5 := Aside0.mk (show wd.heap.size ≤ g5 by rw [hg]; exact HB2.out.size)
            clear hbox hbb hg
            have hc0 : _ ∧ _ ∧ _ ∧ _ := ⟨(HB5.out.cell (World.block_lt_of_cell? wd _ HX.out.1)).trans HX.out.1, (HB5.out.cell (World.block_lt_of_cell? wd _ HX.out.2.1)).trans HX.out.2.1, (HB5.out.cell (World.block_lt_of_cell? wd _ HX.out.2.2.1)).trans HX.out.2.2.1, (HB5.out.cell (World.block_lt_of_cell? wd _ HX.out.2.2.2)).trans HX.out.2.2.2⟩
            refine hK.out _ _ hc0 (fun hHeld => ?_)
            clear hc0 hK K
            refine putN ?_
            refine one_ (i := 10) (N := some 8) #[true, true, true, true, true, true, true, true, true, true, true, true, false, false] rfl rfl (by kernel_rfl) (by decide) (fun K hK => ?_)
            refine box_step ?hg (N := 8) ?hd (cs := #[.int .i64 0]) (t := 3) ?hr ?_; (case hd => rfl); (case hg => rfl); (case hr => first | (go_simp; done) | (go_simp; rfl))
            intro g6 hg w_ hbox hbb
            have HB6 := Aside0.mk (below_step HB5.out hbb)
            have BX5_6 := Aside0.mk (blk_below BX5.out hbb)
            have BX6 := Aside0.mk hbox
            have GE6 := Aside0.mk (show wd.heap.size ≤ g6 by rw [hg]; exact HB5.out.size)
            have NE6 := Aside0.mk (show g6 ≠ g5 by rw [hg]; exact (Nat.ne_of_lt (blk_lt BX5.out)).symm)
            clear hbox hbb hg
            have hc0 : _ ∧ _ ∧ _ ∧ _ := ⟨(HB6.out.cell (World.block_lt_of_cell? wd _ HX.out.1)).trans HX.out.1, (HB6.out.cell (World.block_lt_of_cell? wd _ HX.out.2.1)).trans HX.out.2.1, (HB6.out.cell (World.block_lt_of_cell? wd _ HX.out.2.2.1)).trans HX.out.2.2.1, (HB6.out.cell (World.block_lt_of_cell? wd _ HX.out.2.2.2)).trans HX.out.2.2.2⟩
            refine hK.out _ _ hc0 (fun hHeld => ?_)
            clear hc0 hK K
            refine putN ?_
            exact norm_ (by simp only [putAll, Act.put, List.setIfInBounds_toArray, List.set_cons_zero, List.set_cons_succ]) (hCont (g6, g5) _ ⟨hHeld, HB6.out, BX6.out, BX5_6.out, GE6.out, GE5.out, NE6.out⟩)
        · refine box_step ?hg (N := 8) ?hd (cs := #[.int .i64 0]) (t := 3) ?hr ?_; (case hd => rfl); (case hg => rfl); (case hr => first | (go_simp; done) | (go_simp; rfl))
          intro g7 hg w_ hbox hbb
          have HB7 := Aside0.mk (below_step HB1.out hbb)
          have BX7 := Aside0.mk hbox
          have GE7 := Aside0.mk (show wd.heap.size ≤ g7 by rw [hg]; exact HB1.out.size)
          clear hbox hbb hg
          have hc0 : _ ∧ _ ∧ _ ∧ _ := ⟨(HB7.out.cell (World.block_lt_of_cell? wd _ HX.out.1)).trans HX.out.1, (HB7.out.cell (World.block_lt_of_cell? wd _ HX.out.2.1)).trans HX.out.2.1, (HB7.out.cell (World.block_lt_of_cell? wd _ HX.out.2.2.1)).trans HX.out.2.2.1, (HB7.out.cell (World.block_lt_of_cell? wd _ HX.out.2.2.2)).trans HX.out.2.2.2⟩
          refine hK.out _ _ hc0 (fun hHeld => ?_)
          clear hc0 hK K
          refine putN ?_
          refine two_ (i := 9) (j := 11) (Ni := some 37) (Nj := some 9) #[true, true, true, true, true, true, true, true, true, true, true, false, false, false] #[true, true, true, true, true, true, true, true, true, false, true, true, false, false] rfl rfl rfl rfl (by kernel_rfl) (by decide) (by decide) (fun K hK => ?_) (fun K hK => ?_)
          · refine goes_ Tryz.func46 (by kernel_rfl) rfl #[.int .i64 a2, .int .i64 a3] (by rfl) rfl rfl argsOk ?_
            with_reducible refine (hunks_ahead.calls a2 a3 _ _ (aheadN_eq a2 a3)).mono ?_
            rintro e w_ ⟨rfl, hd⟩
            refine ⟨_, rfl, ?_⟩
            have hbb := hd.below
            clear hd
            have HB8 := Aside0.mk (below_step HB7.out hbb)
            have BX7_8 := Aside0.mk (blk_below BX7.out hbb)
            clear hbb
            have hc0 : _ ∧ _ ∧ _ ∧ _ := ⟨(HB8.out.cell (World.block_lt_of_cell? wd _ HX.out.1)).trans HX.out.1, (HB8.out.cell (World.block_lt_of_cell? wd _ HX.out.2.1)).trans HX.out.2.1, (HB8.out.cell (World.block_lt_of_cell? wd _ HX.out.2.2.1)).trans HX.out.2.2.1, (HB8.out.cell (World.block_lt_of_cell? wd _ HX.out.2.2.2)).trans HX.out.2.2.2⟩
            refine hK.out _ _ hc0 (fun hHeld => ?_)
            clear hc0 hK K
            refine putN ?_
            refine one_ (i := 11) (N := some 9) #[true, true, true, true, true, true, true, true, true, true, true, true, false, false] rfl rfl (by kernel_rfl) (by decide) (fun K hK => ?_)
            refine box_step ?hg (N := 9) ?hd (cs := #[.int .i64 0]) (t := 3) ?hr ?_; (case hd => rfl); (case hg => rfl); (case hr => first | (go_simp; done) | (go_simp; rfl))
            intro g9 hg w_ hbox hbb
            have HB9 := Aside0.mk (below_step HB8.out hbb)
            have BX7_9 := Aside0.mk (blk_below BX7_8.out hbb)
            have BX9 := Aside0.mk hbox
            have GE9 := Aside0.mk (show wd.heap.size ≤ g9 by rw [hg]; exact HB8.out.size)
            have NE9 := Aside0.mk (show g7 ≠ g9 by rw [hg]; exact Nat.ne_of_lt (blk_lt BX7_8.out))
            clear hbox hbb hg
            have hc0 : _ ∧ _ ∧ _ ∧ _ := ⟨(HB9.out.cell (World.block_lt_of_cell? wd _ HX.out.1)).trans HX.out.1, (HB9.out.cell (World.block_lt_of_cell? wd _ HX.out.2.1)).trans HX.out.2.1, (HB9.out.cell (World.block_lt_of_cell? wd _ HX.out.2.2.1)).trans HX.out.2.2.1, (HB9.out.cell (World.block_lt_of_cell? wd _ HX.out.2.2.2)).trans HX.out.2.2.2⟩
            refine hK.out _ _ hc0 (fun hHeld => ?_)
            clear hc0 hK K
            refine putN ?_
            exact norm_ (by simp only [putAll, Act.put, List.setIfInBounds_toArray, List.set_cons_zero, List.set_cons_succ]) (hCont (g7, g9) _ ⟨hHeld, HB9.out, BX7_9.out, BX9.out, GE7.out, GE9.out, NE9.out⟩)
          · refine box_step ?hg (N := 9) ?hd (cs := #[.int .i64 0]) (t := 3) ?hr ?_; (case hd => rfl); (case hg => rfl); (case hr => first | (go_simp; done) | (go_simp; rfl))
            intro g10 hg w_ hbox hbb
            have HB10 := Aside0.mk (below_step HB7.out hbb)
            have BX7_10 := Aside0.mk (blk_below BX7.out hbb)
            have BX10 := Aside0.mk hbox
            have GE10 := Aside0.mk (show wd.heap.size ≤ g10 by rw [hg]; exact HB7.out.size)
            have NE10 := Aside0.mk (show g7 ≠ g10 by rw [hg]; exact Nat.ne_of_lt (blk_lt BX7.out))
            clear hbox hbb hg
            have hc0 : _ ∧ _ ∧ _ ∧ _ := ⟨(HB10.out.cell (World.block_lt_of_cell? wd _ HX.out.1)).trans HX.out.1, (HB10.out.cell (World.block_lt_of_cell? wd _ HX.out.2.1)).trans HX.out.2.1, (HB10.out.cell (World.block_lt_of_cell? wd _ HX.out.2.2.1)).trans HX.out.2.2.1, (HB10.out.cell (World.block_lt_of_cell? wd _ HX.out.2.2.2)).trans HX.out.2.2.2⟩
            refine hK.out _ _ hc0 (fun hHeld => ?_)
            clear hc0 hK K
            refine putN ?_
            refine one_ (i := 9) (N := some 37) #[true, true, true, true, true, true, true, true, true, true, true, true, false, false] rfl rfl (by kernel_rfl) (by decide) (fun K hK => ?_)
            refine goes_ Tryz.func46 (by kernel_rfl) rfl #[.int .i64 a2, .int .i64 a3] (by rfl) rfl rfl argsOk ?_
            with_reducible refine (hunks_ahead.calls a2 a3 _ _ (aheadN_eq a2 a3)).mono ?_
            rintro e w_ ⟨rfl, hd⟩
            refine ⟨_, rfl, ?_⟩
            have hbb := hd.below
            clear hd
            have HB11 := Aside0.mk (below_step HB10.out hbb)
            have BX7_11 := Aside0.mk (blk_below BX7_10.out hbb)
            have BX10_11 := Aside0.mk (blk_below BX10.out hbb)
            clear hbb
            have hc0 : _ ∧ _ ∧ _ ∧ _ := ⟨(HB11.out.cell (World.block_lt_of_cell? wd _ HX.out.1)).trans HX.out.1, (HB11.out.cell (World.block_lt_of_cell? wd _ HX.out.2.1)).trans HX.out.2.1, (HB11.out.cell (World.block_lt_of_cell? wd _ HX.out.2.2.1)).trans HX.out.2.2.1, (HB11.out.cell (World.block_lt_of_cell? wd _ HX.out.2.2.2)).trans HX.out.2.2.2⟩
            refine hK.out _ _ hc0 (fun hHeld => ?_)
            clear hc0 hK K
            refine putN ?_
            exact norm_ (by simp only [putAll, Act.put, List.setIfInBounds_toArray, List.set_cons_zero, List.set_cons_succ]) (hCont (g7, g10) _ ⟨hHeld, HB11.out, BX7_11.out, BX10_11.out, GE7.out, GE10.out, NE10.out⟩)
        · refine box_step ?hg (N := 9) ?hd (cs := #[.int .i64 0]) (t := 3) ?hr ?_; (case hd => rfl); (case hg => rfl); (case hr => first | (go_simp; done) | (go_simp; rfl))
          intro g12 hg w_ hbox hbb
          have HB12 := Aside0.mk (below_step HB1.out hbb)
          have BX12 := Aside0.mk hbox
          have GE12 := Aside0.mk (show wd.heap.size ≤ g12 by rw [hg]; exact HB1.out.size)
          clear hbox hbb hg
          have hc0 : _ ∧ _ ∧ _ ∧ _ := ⟨(HB12.out.cell (World.block_lt_of_cell? wd _ HX.out.1)).trans HX.out.1, (HB12.out.cell (World.block_lt_of_cell? wd _ HX.out.2.1)).trans HX.out.2.1, (HB12.out.cell (World.block_lt_of_cell? wd _ HX.out.2.2.1)).trans HX.out.2.2.1, (HB12.out.cell (World.block_lt_of_cell? wd _ HX.out.2.2.2)).trans HX.out.2.2.2⟩
          refine hK.out _ _ hc0 (fun hHeld => ?_)
          clear hc0 hK K
          refine putN ?_
          refine two_ (i := 9) (j := 10) (Ni := some 37) (Nj := some 8) #[true, true, true, true, true, true, true, true, true, true, false, true, false, false] #[true, true, true, true, true, true, true, true, true, false, true, true, false, false] rfl rfl rfl rfl (by kernel_rfl) (by decide) (by decide) (fun K hK => ?_) (fun K hK => ?_)
          · refine goes_ Tryz.func46 (by kernel_rfl) rfl #[.int .i64 a2, .int .i64 a3] (by rfl) rfl rfl argsOk ?_
            with_reducible refine (hunks_ahead.calls a2 a3 _ _ (aheadN_eq a2 a3)).mono ?_
            rintro e w_ ⟨rfl, hd⟩
            refine ⟨_, rfl, ?_⟩
            have hbb := hd.below
            clear hd
            have HB13 := Aside0.mk (below_step HB12.out hbb)
            have BX12_13 := Aside0.mk (blk_below BX12.out hbb)
            clear hbb
            have hc0 : _ ∧ _ ∧ _ ∧ _ := ⟨(HB13.out.cell (World.block_lt_of_cell? wd _ HX.out.1)).trans HX.out.1, (HB13.out.cell (World.block_lt_of_cell? wd _ HX.out.2.1)).trans HX.out.2.1, (HB13.out.cell (World.block_lt_of_cell? wd _ HX.out.2.2.1)).trans HX.out.2.2.1, (HB13.out.cell (World.block_lt_of_cell? wd _ HX.out.2.2.2)).trans HX.out.2.2.2⟩
            refine hK.out _ _ hc0 (fun hHeld => ?_)
            clear hc0 hK K
            refine putN ?_
            refine one_ (i := 10) (N := some 8) #[true, true, true, true, true, true, true, true, true, true, true, true, false, false] rfl rfl (by kernel_rfl) (by decide) (fun K hK => ?_)
            refine box_step ?hg (N := 8) ?hd (cs := #[.int .i64 0]) (t := 3) ?hr ?_; (case hd => rfl); (case hg => rfl); (case hr => first | (go_simp; done) | (go_simp; rfl))
            intro g14 hg w_ hbox hbb
            have HB14 := Aside0.mk (below_step HB13.out hbb)
            have BX12_14 := Aside0.mk (blk_below BX12_13.out hbb)
            have BX14 := Aside0.mk hbox
            have GE14 := Aside0.mk (show wd.heap.size ≤ g14 by rw [hg]; exact HB13.out.size)
            have NE14 := Aside0.mk (show g14 ≠ g12 by rw [hg]; exact (Nat.ne_of_lt (blk_lt BX12_13.out)).symm)
            clear hbox hbb hg
            have hc0 : _ ∧ _ ∧ _ ∧ _ := ⟨(HB14.out.cell (World.block_lt_of_cell? wd _ HX.out.1)).trans HX.out.1, (HB14.out.cell (World.block_lt_of_cell? wd _ HX.out.2.1)).trans HX.out.2.1, (HB14.out.cell (World.block_lt_of_cell? wd _ HX.out.2.2.1)).trans HX.out.2.2.1, (HB14.out.cell (World.block_lt_of_cell? wd _ HX.out.2.2.2)).trans HX.out.2.2.2⟩
            refine hK.out _ _ hc0 (fun hHeld => ?_)
            clear hc0 hK K
            refine putN ?_
            exact norm_ (by simp only [putAll, Act.put, List.setIfInBounds_toArray, List.set_cons_zero, List.set_cons_succ]) (hCont (g14, g12) _ ⟨hHeld, HB14.out, BX14.out, BX12_14.out, GE14.out, GE12.out, NE14.out⟩)
          · refine box_step ?hg (N := 8) ?hd (cs := #[.int .i64 0]) (t := 3) ?hr ?_; (case hd => rfl); (case hg => rfl); (case hr => first | (go_simp; done) | (go_simp; rfl))
            intro g15 hg w_ hbox hbb
            have HB15 := Aside0.mk (below_step HB12.out hbb)
            have BX12_15 := Aside0.mk (blk_below BX12.out hbb)
            have BX15 := Aside0.mk hbox
            have GE15 := Aside0.mk (show wd.heap.size ≤ g15 by rw [hg]; exact HB12.out.size)
            have NE15 := Aside0.mk (show g15 ≠ g12 by rw [hg]; exact (Nat.ne_of_lt (blk_lt BX12.out)).symm)
            clear hbox hbb hg
            have hc0 : _ ∧ _ ∧ _ ∧ _ := ⟨(HB15.out.cell (World.block_lt_of_cell? wd _ HX.out.1)).trans HX.out.1, (HB15.out.cell (World.block_lt_of_cell? wd _ HX.out.2.1)).trans HX.out.2.1, (HB15.out.cell (World.block_lt_of_cell? wd _ HX.out.2.2.1)).trans HX.out.2.2.1, (HB15.out.cell (World.block_lt_of_cell? wd _ HX.out.2.2.2)).trans HX.out.2.2.2⟩
            refine hK.out _ _ hc0 (fun hHeld => ?_)
            clear hc0 hK K
            refine putN ?_
            refine one_ (i := 9) (N := some 37) #[true, true, true, true, true, true, true, true, true, true, true, true, false, false] rfl rfl (by kernel_rfl) (by decide) (fun K hK => ?_)
            refine goes_ Tryz.func46 (by kernel_rfl) rfl #[.int .i64 a2, .int .i64 a3] (by rfl) rfl rfl argsOk ?_
            with_reducible refine (hunks_ahead.calls a2 a3 _ _ (aheadN_eq a2 a3)).mono ?_
            rintro e w_ ⟨rfl, hd⟩
            refine ⟨_, rfl, ?_⟩
            have hbb := hd.below
            clear hd
            have HB16 := Aside0.mk (below_step HB15.out hbb)
            have BX15_16 := Aside0.mk (blk_below BX15.out hbb)
            have BX12_16 := Aside0.mk (blk_below BX12_15.out hbb)
            clear hbb
            have hc0 : _ ∧ _ ∧ _ ∧ _ := ⟨(HB16.out.cell (World.block_lt_of_cell? wd _ HX.out.1)).trans HX.out.1, (HB16.out.cell (World.block_lt_of_cell? wd _ HX.out.2.1)).trans HX.out.2.1, (HB16.out.cell (World.block_lt_of_cell? wd _ HX.out.2.2.1)).trans HX.out.2.2.1, (HB16.out.cell (World.block_lt_of_cell? wd _ HX.out.2.2.2)).trans HX.out.2.2.2⟩
            refine hK.out _ _ hc0 (fun hHeld => ?_)
            clear hc0 hK K
            refine putN ?_
            exact norm_ (by simp only [putAll, Act.put, List.setIfInBounds_toArray, List.set_cons_zero, List.set_cons_succ]) (hCont (g15, g12) _ ⟨hHeld, HB16.out, BX15_16.out, BX12_16.out, GE15.out, GE12.out, NE15.out⟩)
      · refine box_step ?hg (N := 8) ?hd (cs := #[.int .i64 0]) (t := 3) ?hr ?_; (case hd => rfl); (case hg => rfl); (case hr => first | (go_simp; done) | (go_simp; rfl))
        intro g17 hg w_ hbox hbb
        have HB17 := Aside0.mk (below_step HB0.out hbb)
        have BX17 := Aside0.mk hbox
        have GE17 := Aside0.mk (show wd.heap.size ≤ g17 by rw [hg]; exact HB0.out.size)
        clear hbox hbb hg
        have hc0 : _ ∧ _ ∧ _ ∧ _ := ⟨(HB17.out.cell (World.block_lt_of_cell? wd _ HX.out.1)).trans HX.out.1, (HB17.out.cell (World.block_lt_of_cell? wd _ HX.out.2.1)).trans HX.out.2.1, (HB17.out.cell (World.block_lt_of_cell? wd _ HX.out.2.2.1)).trans HX.out.2.2.1, (HB17.out.cell (World.block_lt_of_cell? wd _ HX.out.2.2.2)).trans HX.out.2.2.2⟩
        refine hK.out _ _ hc0 (fun hHeld => ?_)
        clear hc0 hK K
        refine putN ?_
        refine two_ (i := 4) (j := 11) (Ni := some 32) (Nj := some 9) #[true, true, true, true, true, true, true, true, true, false, true, false, false, false] #[true, true, true, true, false, true, true, true, true, false, true, true, false, false] rfl rfl rfl rfl (by kernel_rfl) (by decide) (by decide) (fun K hK => ?_) (fun K hK => ?_)
        · refine goes_ Tryz.func46 (by kernel_rfl) rfl #[.int .i64 a0, .int .i64 a1] (by rfl) rfl rfl argsOk ?_
          with_reducible refine (hunks_ahead.calls a0 a1 _ _ (aheadN_eq a0 a1)).mono ?_
          rintro e w_ ⟨rfl, hd⟩
          refine ⟨_, rfl, ?_⟩
          have hbb := hd.below
          clear hd
          have HB18 := Aside0.mk (below_step HB17.out hbb)
          have BX17_18 := Aside0.mk (blk_below BX17.out hbb)
          clear hbb
          have hc0 : _ ∧ _ ∧ _ ∧ _ := ⟨(HB18.out.cell (World.block_lt_of_cell? wd _ HX.out.1)).trans HX.out.1, (HB18.out.cell (World.block_lt_of_cell? wd _ HX.out.2.1)).trans HX.out.2.1, (HB18.out.cell (World.block_lt_of_cell? wd _ HX.out.2.2.1)).trans HX.out.2.2.1, (HB18.out.cell (World.block_lt_of_cell? wd _ HX.out.2.2.2)).trans HX.out.2.2.2⟩
          refine hK.out _ _ hc0 (fun hHeld => ?_)
          clear hc0 hK K
          refine putN ?_
          refine two_ (i := 9) (j := 11) (Ni := some 37) (Nj := some 9) #[true, true, true, true, true, true, true, true, true, true, true, false, false, false] #[true, true, true, true, true, true, true, true, true, false, true, true, false, false] rfl rfl rfl rfl (by kernel_rfl) (by decide) (by decide) (fun K hK => ?_) (fun K hK => ?_)
          · refine goes_ Tryz.func46 (by kernel_rfl) rfl #[.int .i64 a2, .int .i64 a3] (by rfl) rfl rfl argsOk ?_
            with_reducible refine (hunks_ahead.calls a2 a3 _ _ (aheadN_eq a2 a3)).mono ?_
            rintro e w_ ⟨rfl, hd⟩
            refine ⟨_, rfl, ?_⟩
            have hbb := hd.below
            clear hd
            have HB19 := Aside0.mk (below_step HB18.out hbb)
            have BX17_19 := Aside0.mk (blk_below BX17_18.out hbb)
            clear hbb
            have hc0 : _ ∧ _ ∧ _ ∧ _ := ⟨(HB19.out.cell (World.block_lt_of_cell? wd _ HX.out.1)).trans HX.out.1, (HB19.out.cell (World.block_lt_of_cell? wd _ HX.out.2.1)).trans HX.out.2.1, (HB19.out.cell (World.block_lt_of_cell? wd _ HX.out.2.2.1)).trans HX.out.2.2.1, (HB19.out.cell (World.block_lt_of_cell? wd _ HX.out.2.2.2)).trans HX.out.2.2.2⟩
            refine hK.out _ _ hc0 (fun hHeld => ?_)
            clear hc0 hK K
            refine putN ?_
            refine one_ (i := 11) (N := some 9) #[true, true, true, true, true, true, true, true, true, true, true, true, false, false] rfl rfl (by kernel_rfl) (by decide) (fun K hK => ?_)
            refine box_step ?hg (N := 9) ?hd (cs := #[.int .i64 0]) (t := 3) ?hr ?_; (case hd => rfl); (case hg => rfl); (case hr => first | (go_simp; done) | (go_simp; rfl))
            intro g20 hg w_ hbox hbb
            have HB20 := Aside0.mk (below_step HB19.out hbb)
            have BX17_20 := Aside0.mk (blk_below BX17_19.out hbb)
            have BX20 := Aside0.mk hbox
            have GE20 := Aside0.mk (show wd.heap.size ≤ g20 by rw [hg]; exact HB19.out.size)
            have NE20 := Aside0.mk (show g17 ≠ g20 by rw [hg]; exact Nat.ne_of_lt (blk_lt BX17_19.out))
            clear hbox hbb hg
            have hc0 : _ ∧ _ ∧ _ ∧ _ := ⟨(HB20.out.cell (World.block_lt_of_cell? wd _ HX.out.1)).trans HX.out.1, (HB20.out.cell (World.block_lt_of_cell? wd _ HX.out.2.1)).trans HX.out.2.1, (HB20.out.cell (World.block_lt_of_cell? wd _ HX.out.2.2.1)).trans HX.out.2.2.1, (HB20.out.cell (World.block_lt_of_cell? wd _ HX.out.2.2.2)).trans HX.out.2.2.2⟩
            refine hK.out _ _ hc0 (fun hHeld => ?_)
            clear hc0 hK K
            refine putN ?_
            exact norm_ (by simp only [putAll, Act.put, List.setIfInBounds_toArray, List.set_cons_zero, List.set_cons_succ]) (hCont (g17, g20) _ ⟨hHeld, HB20.out, BX17_20.out, BX20.out, GE17.out, GE20.out, NE20.out⟩)
          · refine box_step ?hg (N := 9) ?hd (cs := #[.int .i64 0]) (t := 3) ?hr ?_; (case hd => rfl); (case hg => rfl); (case hr => first | (go_simp; done) | (go_simp; rfl))
            intro g21 hg w_ hbox hbb
            have HB21 := Aside0.mk (below_step HB18.out hbb)
            have BX17_21 := Aside0.mk (blk_below BX17_18.out hbb)
            have BX21 := Aside0.mk hbox
            have GE21 := Aside0.mk (show wd.heap.size ≤ g21 by rw [hg]; exact HB18.out.size)
            have NE21 := Aside0.mk (show g17 ≠ g21 by rw [hg]; exact Nat.ne_of_lt (blk_lt BX17_18.out))
            clear hbox hbb hg
            have hc0 : _ ∧ _ ∧ _ ∧ _ := ⟨(HB21.out.cell (World.block_lt_of_cell? wd _ HX.out.1)).trans HX.out.1, (HB21.out.cell (World.block_lt_of_cell? wd _ HX.out.2.1)).trans HX.out.2.1, (HB21.out.cell (World.block_lt_of_cell? wd _ HX.out.2.2.1)).trans HX.out.2.2.1, (HB21.out.cell (World.block_lt_of_cell? wd _ HX.out.2.2.2)).trans HX.out.2.2.2⟩
            refine hK.out _ _ hc0 (fun hHeld => ?_)
            clear hc0 hK K
            refine putN ?_
            refine one_ (i := 9) (N := some 37) #[true, true, true, true, true, true, true, true, true, true, true, true, false, false] rfl rfl (by kernel_rfl) (by decide) (fun K hK => ?_)
            refine goes_ Tryz.func46 (by kernel_rfl) rfl #[.int .i64 a2, .int .i64 a3] (by rfl) rfl rfl argsOk ?_
            with_reducible refine (hunks_ahead.calls a2 a3 _ _ (aheadN_eq a2 a3)).mono ?_
            rintro e w_ ⟨rfl, hd⟩
            refine ⟨_, rfl, ?_⟩
            have hbb := hd.below
            clear hd
            have HB22 := Aside0.mk (below_step HB21.out hbb)
            have BX17_22 := Aside0.mk (blk_below BX17_21.out hbb)
            have BX21_22 := Aside0.mk (blk_below BX21.out hbb)
            clear hbb
            have hc0 : _ ∧ _ ∧ _ ∧ _ := ⟨(HB22.out.cell (World.block_lt_of_cell? wd _ HX.out.1)).trans HX.out.1, (HB22.out.cell (World.block_lt_of_cell? wd _ HX.out.2.1)).trans HX.out.2.1, (HB22.out.cell (World.block_lt_of_cell? wd _ HX.out.2.2.1)).trans HX.out.2.2.1, (HB22.out.cell (World.block_lt_of_cell? wd _ HX.out.2.2.2)).trans HX.out.2.2.2⟩
            refine hK.out _ _ hc0 (fun hHeld => ?_)
            clear hc0 hK K
            refine putN ?_
            exact norm_ (by simp only [putAll, Act.put, List.setIfInBounds_toArray, List.set_cons_zero, List.set_cons_succ]) (hCont (g17, g21) _ ⟨hHeld, HB22.out, BX17_22.out, BX21_22.out, GE17.out, GE21.out, NE21.out⟩)
        · refine box_step ?hg (N := 9) ?hd (cs := #[.int .i64 0]) (t := 3) ?hr ?_; (case hd => rfl); (case hg => rfl); (case hr => first | (go_simp; done) | (go_simp; rfl))
          intro g23 hg w_ hbox hbb
          have HB23 := Aside0.mk (below_step HB17.out hbb)
          have BX17_23 := Aside0.mk (blk_below BX17.out hbb)
          have BX23 := Aside0.mk hbox
          have GE23 := Aside0.mk (show wd.heap.size ≤ g23 by rw [hg]; exact HB17.out.size)
          have NE23 := Aside0.mk (show g17 ≠ g23 by rw [hg]; exact Nat.ne_of_lt (blk_lt BX17.out))
          clear hbox hbb hg
          have hc0 : _ ∧ _ ∧ _ ∧ _ := ⟨(HB23.out.cell (World.block_lt_of_cell? wd _ HX.out.1)).trans HX.out.1, (HB23.out.cell (World.block_lt_of_cell? wd _ HX.out.2.1)).trans HX.out.2.1, (HB23.out.cell (World.block_lt_of_cell? wd _ HX.out.2.2.1)).trans HX.out.2.2.1, (HB23.out.cell (World.block_lt_of_cell? wd _ HX.out.2.2.2)).trans HX.out.2.2.2⟩
          refine hK.out _ _ hc0 (fun hHeld => ?_)
          clear hc0 hK K
          refine putN ?_
          refine one_ (i := 4) (N := some 32) #[true, true, true, true, true, true, true, true, true, false, true, true, false, false] rfl rfl (by kernel_rfl) (by decide) (fun K hK => ?_)
          refine goes_ Tryz.func46 (by kernel_rfl) rfl #[.int .i64 a0, .int .i64 a1] (by rfl) rfl rfl argsOk ?_
          with_reducible refine (hunks_ahead.calls a0 a1 _ _ (aheadN_eq a0 a1)).mono ?_
          rintro e w_ ⟨rfl, hd⟩
          refine ⟨_, rfl, ?_⟩
          have hbb := hd.below
          clear hd
          have HB24 := Aside0.mk (below_step HB23.out hbb)
          have BX17_24 := Aside0.mk (blk_below BX17_23.out hbb)
          have BX23_24 := Aside0.mk (blk_below BX23.out hbb)
          clear hbb
          have hc0 : _ ∧ _ ∧ _ ∧ _ := ⟨(HB24.out.cell (World.block_lt_of_cell? wd _ HX.out.1)).trans HX.out.1, (HB24.out.cell (World.block_lt_of_cell? wd _ HX.out.2.1)).trans HX.out.2.1, (HB24.out.cell (World.block_lt_of_cell? wd _ HX.out.2.2.1)).trans HX.out.2.2.1, (HB24.out.cell (World.block_lt_of_cell? wd _ HX.out.2.2.2)).trans HX.out.2.2.2⟩
          refine hK.out _ _ hc0 (fun hHeld => ?_)
          clear hc0 hK K
          refine putN ?_
          refine one_ (i := 9) (N := some 37) #[true, true, true, true, true, true, true, true, true, true, true, true, false, false] rfl rfl (by kernel_rfl) (by decide) (fun K hK => ?_)
          refine goes_ Tryz.func46 (by kernel_rfl) rfl #[.int .i64 a2, .int .i64 a3] (by rfl) rfl rfl argsOk ?_
          with_reducible refine (hunks_ahead.calls a2 a3 _ _ (aheadN_eq a2 a3)).mono ?_
          rintro e w_ ⟨rfl, hd⟩
          refine ⟨_, rfl, ?_⟩
          have hbb := hd.below
          clear hd
          have HB25 := Aside0.mk (below_step HB24.out hbb)
          have BX17_25 := Aside0.mk (blk_below BX17_24.out hbb)
          have BX23_25 := Aside0.mk (blk_below BX23_24.out hbb)
          clear hbb
          have hc0 : _ ∧ _ ∧ _ ∧ _ := ⟨(HB25.out.cell (World.block_lt_of_cell? wd _ HX.out.1)).trans HX.out.1, (HB25.out.cell (World.block_lt_of_cell? wd _ HX.out.2.1)).trans HX.out.2.1, (HB25.out.cell (World.block_lt_of_cell? wd _ HX.out.2.2.1)).trans HX.out.2.2.1, (HB25.out.cell (World.block_lt_of_cell? wd _ HX.out.2.2.2)).trans HX.out.2.2.2⟩
          refine hK.out _ _ hc0 (fun hHeld => ?_)
          clear hc0 hK K
          refine putN ?_
          exact norm_ (by simp only [putAll, Act.put, List.setIfInBounds_toArray, List.set_cons_zero, List.set_cons_succ]) (hCont (g17, g23) _ ⟨hHeld, HB25.out, BX17_25.out, BX23_25.out, GE17.out, GE23.out, NE23.out⟩)
      · refine box_step ?hg (N := 9) ?hd (cs := #[.int .i64 0]) (t := 3) ?hr ?_; (case hd => rfl); (case hg => rfl); (case hr => first | (go_simp; done) | (go_simp; rfl))
        intro g26 hg w_ hbox hbb
        have HB26 := Aside0.mk (below_step HB0.out hbb)
        have BX26 := Aside0.mk hbox
        have GE26 := Aside0.mk (show wd.heap.size ≤ g26 by rw [hg]; exact HB0.out.size)
        clear hbox hbb hg
        have hc0 : _ ∧ _ ∧ _ ∧ _ := ⟨(HB26.out.cell (World.block_lt_of_cell? wd _ HX.out.1)).trans HX.out.1, (HB26.out.cell (World.block_lt_of_cell? wd _ HX.out.2.1)).trans HX.out.2.1, (HB26.out.cell (World.block_lt_of_cell? wd _ HX.out.2.2.1)).trans HX.out.2.2.1, (HB26.out.cell (World.block_lt_of_cell? wd _ HX.out.2.2.2)).trans HX.out.2.2.2⟩
        refine hK.out _ _ hc0 (fun hHeld => ?_)
        clear hc0 hK K
        refine putN ?_
        refine two_ (i := 4) (j := 10) (Ni := some 32) (Nj := some 8) #[true, true, true, true, true, true, true, true, true, false, false, true, false, false] #[true, true, true, true, false, true, true, true, true, false, true, true, false, false] rfl rfl rfl rfl (by kernel_rfl) (by decide) (by decide) (fun K hK => ?_) (fun K hK => ?_)
        · refine goes_ Tryz.func46 (by kernel_rfl) rfl #[.int .i64 a0, .int .i64 a1] (by rfl) rfl rfl argsOk ?_
          with_reducible refine (hunks_ahead.calls a0 a1 _ _ (aheadN_eq a0 a1)).mono ?_
          rintro e w_ ⟨rfl, hd⟩
          refine ⟨_, rfl, ?_⟩
          have hbb := hd.below
          clear hd
          have HB27 := Aside0.mk (below_step HB26.out hbb)
          have BX26_27 := Aside0.mk (blk_below BX26.out hbb)
          clear hbb
          have hc0 : _ ∧ _ ∧ _ ∧ _ := ⟨(HB27.out.cell (World.block_lt_of_cell? wd _ HX.out.1)).trans HX.out.1, (HB27.out.cell (World.block_lt_of_cell? wd _ HX.out.2.1)).trans HX.out.2.1, (HB27.out.cell (World.block_lt_of_cell? wd _ HX.out.2.2.1)).trans HX.out.2.2.1, (HB27.out.cell (World.block_lt_of_cell? wd _ HX.out.2.2.2)).trans HX.out.2.2.2⟩
          refine hK.out _ _ hc0 (fun hHeld => ?_)
          clear hc0 hK K
          refine putN ?_
          refine two_ (i := 9) (j := 10) (Ni := some 37) (Nj := some 8) #[true, true, true, true, true, true, true, true, true, true, false, true, false, false] #[true, true, true, true, true, true, true, true, true, false, true, true, false, false] rfl rfl rfl rfl (by kernel_rfl) (by decide) (by decide) (fun K hK => ?_) (fun K hK => ?_)
          · refine goes_ Tryz.func46 (by kernel_rfl) rfl #[.int .i64 a2, .int .i64 a3] (by rfl) rfl rfl argsOk ?_
            with_reducible refine (hunks_ahead.calls a2 a3 _ _ (aheadN_eq a2 a3)).mono ?_
            rintro e w_ ⟨rfl, hd⟩
            refine ⟨_, rfl, ?_⟩
            have hbb := hd.below
            clear hd
            have HB28 := Aside0.mk (below_step HB27.out hbb)
            have BX26_28 := Aside0.mk (blk_below BX26_27.out hbb)
            clear hbb
            have hc0 : _ ∧ _ ∧ _ ∧ _ := ⟨(HB28.out.cell (World.block_lt_of_cell? wd _ HX.out.1)).trans HX.out.1, (HB28.out.cell (World.block_lt_of_cell? wd _ HX.out.2.1)).trans HX.out.2.1, (HB28.out.cell (World.block_lt_of_cell? wd _ HX.out.2.2.1)).trans HX.out.2.2.1, (HB28.out.cell (World.block_lt_of_cell? wd _ HX.out.2.2.2)).trans HX.out.2.2.2⟩
            refine hK.out _ _ hc0 (fun hHeld => ?_)
            clear hc0 hK K
            refine putN ?_
            refine one_ (i := 10) (N := some 8) #[true, true, true, true, true, true, true, true, true, true, true, true, false, false] rfl rfl (by kernel_rfl) (by decide) (fun K hK => ?_)
            refine box_step ?hg (N := 8) ?hd (cs := #[.int .i64 0]) (t := 3) ?hr ?_; (case hd => rfl); (case hg => rfl); (case hr => first | (go_simp; done) | (go_simp; rfl))
            intro g29 hg w_ hbox hbb
            have HB29 := Aside0.mk (below_step HB28.out hbb)
            have BX26_29 := Aside0.mk (blk_below BX26_28.out hbb)
            have BX29 := Aside0.mk hbox
            have GE29 := Aside0.mk (show wd.heap.size ≤ g29 by rw [hg]; exact HB28.out.size)
            have NE29 := Aside0.mk (show g29 ≠ g26 by rw [hg]; exact (Nat.ne_of_lt (blk_lt BX26_28.out)).symm)
            clear hbox hbb hg
            have hc0 : _ ∧ _ ∧ _ ∧ _ := ⟨(HB29.out.cell (World.block_lt_of_cell? wd _ HX.out.1)).trans HX.out.1, (HB29.out.cell (World.block_lt_of_cell? wd _ HX.out.2.1)).trans HX.out.2.1, (HB29.out.cell (World.block_lt_of_cell? wd _ HX.out.2.2.1)).trans HX.out.2.2.1, (HB29.out.cell (World.block_lt_of_cell? wd _ HX.out.2.2.2)).trans HX.out.2.2.2⟩
            refine hK.out _ _ hc0 (fun hHeld => ?_)
            clear hc0 hK K
            refine putN ?_
            exact norm_ (by simp only [putAll, Act.put, List.setIfInBounds_toArray, List.set_cons_zero, List.set_cons_succ]) (hCont (g29, g26) _ ⟨hHeld, HB29.out, BX29.out, BX26_29.out, GE29.out, GE26.out, NE29.out⟩)
          · refine box_step ?hg (N := 8) ?hd (cs := #[.int .i64 0]) (t := 3) ?hr ?_; (case hd => rfl); (case hg => rfl); (case hr => first | (go_simp; done) | (go_simp; rfl))
            intro g30 hg w_ hbox hbb
            have HB30 := Aside0.mk (below_step HB27.out hbb)
            have BX26_30 := Aside0.mk (blk_below BX26_27.out hbb)
            have BX30 := Aside0.mk hbox
            have GE30 := Aside0.mk (show wd.heap.size ≤ g30 by rw [hg]; exact HB27.out.size)
            have NE30 := Aside0.mk (show g30 ≠ g26 by rw [hg]; exact (Nat.ne_of_lt (blk_lt BX26_27.out)).symm)
            clear hbox hbb hg
            have hc0 : _ ∧ _ ∧ _ ∧ _ := ⟨(HB30.out.cell (World.block_lt_of_cell? wd _ HX.out.1)).trans HX.out.1, (HB30.out.cell (World.block_lt_of_cell? wd _ HX.out.2.1)).trans HX.out.2.1, (HB30.out.cell (World.block_lt_of_cell? wd _ HX.out.2.2.1)).trans HX.out.2.2.1, (HB30.out.cell (World.block_lt_of_cell? wd _ HX.out.2.2.2)).trans HX.out.2.2.2⟩
            refine hK.out _ _ hc0 (fun hHeld => ?_)
            clear hc0 hK K
            refine putN ?_
            refine one_ (i := 9) (N := some 37) #[true, true, true, true, true, true, true, true, true, true, true, true, false, false] rfl rfl (by kernel_rfl) (by decide) (fun K hK => ?_)
            refine goes_ Tryz.func46 (by kernel_rfl) rfl #[.int .i64 a2, .int .i64 a3] (by rfl) rfl rfl argsOk ?_
            with_reducible refine (hunks_ahead.calls a2 a3 _ _ (aheadN_eq a2 a3)).mono ?_
            rintro e w_ ⟨rfl, hd⟩
            refine ⟨_, rfl, ?_⟩
            have hbb := hd.below
            clear hd
            have HB31 := Aside0.mk (below_step HB30.out hbb)
            have BX30_31 := Aside0.mk (blk_below BX30.out hbb)
            have BX26_31 := Aside0.mk (blk_below BX26_30.out hbb)
            clear hbb
            have hc0 : _ ∧ _ ∧ _ ∧ _ := ⟨(HB31.out.cell (World.block_lt_of_cell? wd _ HX.out.1)).trans HX.out.1, (HB31.out.cell (World.block_lt_of_cell? wd _ HX.out.2.1)).trans HX.out.2.1, (HB31.out.cell (World.block_lt_of_cell? wd _ HX.out.2.2.1)).trans HX.out.2.2.1, (HB31.out.cell (World.block_lt_of_cell? wd _ HX.out.2.2.2)).trans HX.out.2.2.2⟩
            refine hK.out _ _ hc0 (fun hHeld => ?_)
            clear hc0 hK K
            refine putN ?_
            exact norm_ (by simp only [putAll, Act.put, List.setIfInBounds_toArray, List.set_cons_zero, List.set_cons_succ]) (hCont (g30, g26) _ ⟨hHeld, HB31.out, BX30_31.out, BX26_31.out, GE30.out, GE26.out, NE30.out⟩)
        · refine box_step ?hg (N := 8) ?hd (cs := #[.int .i64 0]) (t := 3) ?hr ?_; (case hd => rfl); (case hg => rfl); (case hr => first | (go_simp; done) | (go_simp; rfl))
          intro g32 hg w_ hbox hbb
          have HB32 := Aside0.mk (below_step HB26.out hbb)
          have BX26_32 := Aside0.mk (blk_below BX26.out hbb)
          have BX32 := Aside0.mk hbox
          have GE32 := Aside0.mk (show wd.heap.size ≤ g32 by rw [hg]; exact HB26.out.size)
          have NE32 := Aside0.mk (show g32 ≠ g26 by rw [hg]; exact (Nat.ne_of_lt (blk_lt BX26.out)).symm)
          clear hbox hbb hg
          have hc0 : _ ∧ _ ∧ _ ∧ _ := ⟨(HB32.out.cell (World.block_lt_of_cell? wd _ HX.out.1)).trans HX.out.1, (HB32.out.cell (World.block_lt_of_cell? wd _ HX.out.2.1)).trans HX.out.2.1, (HB32.out.cell (World.block_lt_of_cell? wd _ HX.out.2.2.1)).trans HX.out.2.2.1, (HB32.out.cell (World.block_lt_of_cell? wd _ HX.out.2.2.2)).trans HX.out.2.2.2⟩
          refine hK.out _ _ hc0 (fun hHeld => ?_)
          clear hc0 hK K
          refine putN ?_
          refine one_ (i := 4) (N := some 32) #[true, true, true, true, true, true, true, true, true, false, true, true, false, false] rfl rfl (by kernel_rfl) (by decide) (fun K hK => ?_)
          refine goes_ Tryz.func46 (by kernel_rfl) rfl #[.int .i64 a0, .int .i64 a1] (by rfl) rfl rfl argsOk ?_
          with_reducible refine (hunks_ahead.calls a0 a1 _ _ (aheadN_eq a0 a1)).mono ?_
          rintro e w_ ⟨rfl, hd⟩
          refine ⟨_, rfl, ?_⟩
          have hbb := hd.below
          clear hd
          have HB33 := Aside0.mk (below_step HB32.out hbb)
          have BX32_33 := Aside0.mk (blk_below BX32.out hbb)
          have BX26_33 := Aside0.mk (blk_below BX26_32.out hbb)
          clear hbb
          have hc0 : _ ∧ _ ∧ _ ∧ _ := ⟨(HB33.out.cell (World.block_lt_of_cell? wd _ HX.out.1)).trans HX.out.1, (HB33.out.cell (World.block_lt_of_cell? wd _ HX.out.2.1)).trans HX.out.2.1, (HB33.out.cell (World.block_lt_of_cell? wd _ HX.out.2.2.1)).trans HX.out.2.2.1, (HB33.out.cell (World.block_lt_of_cell? wd _ HX.out.2.2.2)).trans HX.out.2.2.2⟩
          refine hK.out _ _ hc0 (fun hHeld => ?_)
          clear hc0 hK K
          refine putN ?_
          refine one_ (i := 9) (N := some 37) #[true, true, true, true, true, true, true, true, true, true, true, true, false, false] rfl rfl (by kernel_rfl) (by decide) (fun K hK => ?_)
          refine goes_ Tryz.func46 (by kernel_rfl) rfl #[.int .i64 a2, .int .i64 a3] (by rfl) rfl rfl argsOk ?_
          with_reducible refine (hunks_ahead.calls a2 a3 _ _ (aheadN_eq a2 a3)).mono ?_
          rintro e w_ ⟨rfl, hd⟩
          refine ⟨_, rfl, ?_⟩
          have hbb := hd.below
          clear hd
          have HB34 := Aside0.mk (below_step HB33.out hbb)
          have BX32_34 := Aside0.mk (blk_below BX32_33.out hbb)
          have BX26_34 := Aside0.mk (blk_below BX26_33.out hbb)
          clear hbb
          have hc0 : _ ∧ _ ∧ _ ∧ _ := ⟨(HB34.out.cell (World.block_lt_of_cell? wd _ HX.out.1)).trans HX.out.1, (HB34.out.cell (World.block_lt_of_cell? wd _ HX.out.2.1)).trans HX.out.2.1, (HB34.out.cell (World.block_lt_of_cell? wd _ HX.out.2.2.1)).trans HX.out.2.2.1, (HB34.out.cell (World.block_lt_of_cell? wd _ HX.out.2.2.2)).trans HX.out.2.2.2⟩
          refine hK.out _ _ hc0 (fun hHeld => ?_)
          clear hc0 hK K
          refine putN ?_
          exact norm_ (by simp only [putAll, Act.put, List.setIfInBounds_toArray, List.set_cons_zero, List.set_cons_succ]) (hCont (g32, g26) _ ⟨hHeld, HB34.out, BX32_34.out, BX26_34.out, GE32.out, GE26.out, NE32.out⟩)
    · rintro ⟨ga, gb⟩ w3 ⟨hHeld, hB3, hA3, hBB3, lA, lB, nab⟩
      have HI3 := Aside0.mk (HI2.out.both hB3 hA3 hBB3 lA lB nab)
      clear HI2 hB3
      refine norm_ (a' := ?_) ?_ ?_
      rotate_left
      · simp only [putAll, Act.put, List.setIfInBounds_toArray, List.set_cons_zero, List.set_cons_succ]
        rfl
      have za := (blk_cell hA3 0).trans rfl
      have fa := blk_frozen hA3 0
      refine one_ (i := 12) (N := none) #[true, true, true, true, true, true, true, true, true, true, true, true, true, false] rfl rfl (by kernel_rfl) (by decide) (fun K hK => ?_)
      refine skip_ (w1 := ?_) (by rfl) rfl ?_ ?_
      rotate_left
      · go_simp
        rfl
      have HI4 := Aside0.mk (HI3.out.setA (aheadN a0 a1))
      have hc0 := HI4.out.head
      clear za fa hA3 hBB3
      refine hK.out _ _ hc0 (fun hHeld => ?_)
      clear hc0 hK K HI3
      generalize w3.setCell ⟨ga, 0, none⟩ (.int .i64 (aheadN a0 a1)) = w4 at HI4 hHeld ⊢
      have zb := HI4.out.cells.2.2
      have fb := blk_frozen HI4.out.bb 0
      refine one_ (i := 13) (N := none) #[true, true, true, true, true, true, true, true, true, true, true, true, true, true] rfl rfl (by kernel_rfl) (by decide) (fun K hK => ?_)
      refine skip_ (w1 := ?_) (by rfl) rfl ?_ ?_
      rotate_left
      · go_simp
        rfl
      have HI5 := Aside0.mk (HI4.out.setB (aheadN a2 a3))
      have hc0 := HI5.out.head
      refine hK.out _ _ hc0 (fun hHeld => ?_)
      clear hc0 hK K HI4 zb fb
      generalize w4.setCell ⟨gb, 0, none⟩ (.int .i64 (aheadN a2 a3)) = w5 at HI5 hHeld ⊢
      refine done_ (by kernel_rfl) ?_
      clear HX hHeld lA lB nab
      go_upto_region 12 with (fail)
      go_wp2
      go_loopg [12, 13] (l5.length + 1) (fun kq v12 v13 w' => ∃ (q frm : Nat) (a b : Int) (vo : Value) (out : List S29), v12 = .int .i64 (frm : Int) ∧ v13 = .int .i64 (q : Int) ∧ Aside0 (narL k c a4 l5 kq q frm a b out = some r) ∧ Aside0 (frm ≤ q ∧ q ≤ l5.length) ∧ Aside0 (NarIn w gh go ga gb ⟨a0, a1, a2, a3, a4, l5⟩ (.slice A5 l5.length c5) vo out a b w'))
      case atStart => exact ⟨0, 0, _, _, _, [], rfl, rfl, HN, ⟨by omega, by omega⟩, HI5⟩
      case round =>
        clear HI5
        obtain ⟨q, frm, a, b, vo, out, rfl, rfl, H, HK, HI⟩ := hrel
        cases gk with
        | zero => exact absurd H.out (by simp [narL])
        | succ f =>
          have H1 := H.out
          rw [narL] at H1
          clear H
          have ch5 := HI.out.rows
          by_cases hq : q < l5.length
          · rw [if_pos hq] at H1
            have H2 := Aside0.mk H1
            clear H1
            have z1 : decide (q < l5.length) = true := decide_eq_true hq
            have z2 : decide ((q : Int) < (l5.length : Int)) = true := decide_eq_true (by omega)
            have HQ := Aside0.mk hq
            clear hq
            go_upto_block 2 with (fail)
            go_cut [14] (fun v14 wc => v14 = .int .i64 ((runB (l5.drop q) : Nat) : Int) ∧ Aside0 (NarIn w gh go ga gb ⟨a0, a1, a2, a3, a4, l5⟩ (.slice A5 l5.length c5) vo out a b wc))
            case first =>
              go_wp2_with fail
              go_loopg [14] (l5.length + 1) (fun kq v14 w' => ∃ n : Nat, v14 = .int .i64 (n : Int) ∧ Aside0 (n + runB (l5.drop (q + n)) = runB (l5.drop q) ∧ q + n ≤ l5.length ∧ n + kq = l5.length + 1) ∧ Aside0 (NarIn w gh go ga gb ⟨a0, a1, a2, a3, a4, l5⟩ (.slice A5 l5.length c5) vo out a b w'))
              case atStart => exact ⟨0, rfl, ⟨by simp, by have := HQ.out; omega, by omega⟩, HI⟩
              case round =>
                clear HI ch5
                obtain ⟨n, rfl, HM, HI⟩ := hrel
                have ch5 := HI.out.rows
                obtain ⟨z, hz⟩ : ∃ z, z = q + n := ⟨_, rfl⟩
                have HZ := Aside0.mk (show n + runB (l5.drop z) = runB (l5.drop q) ∧ z ≤ l5.length ∧ n + gk = l5.length + 1 by rw [hz]; exact HM.out)
                have hsum : wrap64 ((q : Int) + (n : Int)) = (z : Int) := by rw [hz, Pure.w64' (by omega) (by have := HM.out.2.1; have := HLEN.out; omega)]; omega
                have HQN := Aside0.mk hz
                clear hz HM
                by_cases hn : z < l5.length
                · have p1 : 0 ≤ (z : Int) := by omega
                  have q1 : (z : Int) < (l5.length : Int) := by omega
                  obtain ⟨ad, e1, hx0, _⟩ := at_T53 HR.out (z : Int) p1 q1
                  replace hx0 := pw_cell_below HI.out.below hx0
                  subst e1
                  simp only [Int.toNat_natCast] at hx0
                  have HRN := Aside0.mk (runB_at l5 z hn)
                  have n1 : decide (z < l5.length) = true := decide_eq_true hn
                  have n2 : decide ((z : Int) < (l5.length : Int)) = true := decide_eq_true q1
                  clear hn
                  generalize (rd_T53 l5 (z : Int)).f0 = kd at hx0 HRN
                  by_cases hk : kd = 1
                  · have kb : (kd == 1) = true := beq_iff_eq.mpr hk
                    have HK1 := Aside0.mk (show runB (l5.drop z) = runB (l5.drop (z + 1)) + 1 by rw [HRN.out, if_pos hk])
                    have HW : Aside0 (wrap64 ((n : Int) + 1) = ((n + 1 : Nat) : Int)) := ⟨by rw [Pure.w64' (by omega) (by have := HZ.out.2.2; have := HLEN.out; omega)]; omega⟩
                    clear hk HRN
                    go_wp2
                    go_roundg (gk - 1)
                    case measure => have := HZ.out; have := HQN.out; omega
                    case rel => exact ⟨n + 1, (by first | (rw [HW.out]; done) | go_num | (simp; done)), ⟨by have h1 := HZ.out; have h2 := HK1.out; have h3 := HQN.out; rw [show q + (n + 1) = z + 1 by omega]; exact ⟨by omega, by omega, by omega⟩⟩, ⟨HI.out⟩⟩
                  · have kb : (kd == 1) = false := beq_eq_false_iff_ne.mpr hk
                    have HK1 := Aside0.mk (show runB (l5.drop q) = n by have := HZ.out; have h2 := HRN.out; rw [if_neg hk] at h2; omega)
                    clear hk HRN
                    go_wp2
                    go_meet
                    case rel => exact ⟨by rw [HK1.out], HI⟩
                · have HK1 := Aside0.mk (show runB (l5.drop q) = n by have := HZ.out; have := (run_end l5 z (by omega)).1; omega)
                  have n1 : decide (z < l5.length) = false := decide_eq_false hn
                  have n2 : decide ((z : Int) < (l5.length : Int)) = false := decide_eq_false (by omega)
                  clear hn
                  go_wp2
                  go_meet
                  case rel => exact ⟨by rw [HK1.out], HI⟩
            case rest =>
              clear HI ch5
              obtain ⟨rfl, HI⟩ := hcut
              have ch5 := HI.out.rows
              obtain ⟨n, hn⟩ : ∃ n, n = runB (l5.drop q) := ⟨_, rfl⟩
              obtain ⟨z, hz⟩ : ∃ z, z = q + n := ⟨_, rfl⟩
              have HZ := Aside0.mk (show z ≤ l5.length by have := runB_room l5 q HK.out.2; omega)
              have Ahsum : Aside0 (wrap64 ((q : Int) + (n : Int)) = (z : Int)) := ⟨by rw [hz, Pure.w64' (by omega) (by have := HZ.out; have := HLEN.out; omega)]; omega⟩
              have HX1 := Aside0.mk (show z + runC (l5.drop z) = nxt l5 q by unfold nxt; rw [hz, hn])
              have HX2 := Aside0.mk (nxt_room l5 q HK.out.2)
              rw [← hn] at H2 HX2 ⊢
              rw [← hz] at H2 HX2
              have HZ1 := Aside0.mk hz
              clear hn hz
              obtain ⟨bz, hbz⟩ : ∃ bz : Bool, ((z : Int) == (l5.length : Int)) = bz := ⟨_, rfl⟩
              have HBZ := Aside0.mk hbz
              have hbz2 : (z == l5.length) = bz := by rw [← hbz, Bool.eq_iff_iff, beq_iff_eq, beq_iff_eq]; omega
              have hsum := Ahsum.out
              go_upto_block 4 with (fail)
              go_cut [12] (fun v12 wc => ∃ (frm' : Nat) (a' b' : Int) (vo' : Value) (out' : List S29), v12 = .int .i64 (frm' : Int) ∧ Aside0 (narL k c a4 l5 f (nxt l5 q) frm' a' b' out' = some r) ∧ Aside0 (frm' ≤ z) ∧ Aside0 (NarIn w gh go ga gb ⟨a0, a1, a2, a3, a4, l5⟩ (.slice A5 l5.length c5) vo' out' a' b' wc))
              case first =>
                clear hsum hbz hbz2
                have H3 := H2.out
                clear H2
                by_cases hq0 : q = 0
                · rw [if_pos hq0] at H3
                  have H4 := Aside0.mk H3
                  have k0 : ((q : Int) == 0) = true := beq_iff_eq.mpr (by omega)
                  obtain ⟨m, hm⟩ : ∃ m, m = n - c := ⟨_, rfl⟩
                  obtain ⟨d, hd⟩ : ∃ d : Int, d = (n : Int) - (c : Int) := ⟨_, rfl⟩
                  have Ahsub : Aside0 (wrap64 ((n : Int) - (c : Int)) = d) := ⟨by rw [hd, Pure.w64' (by omega) (by have := HZ.out; have := HZ1.out; have := HLEN.out; omega)]⟩
                  have hmax : ∀ k k' : IntKind, Builtin.max2 (.int k d) (.int k' 0) = pure (.int k (m : Int)) := fun k k' => by
                    rw [max2_int]
                    congr 2
                    split <;> omega
                  rw [← hm] at H4
                  have HM := Aside0.mk hm
                  clear H3 hq0 hd hm
                  have hsum := Ahsum.out
                  have hsub := Ahsub.out
                  go_wp2_with (go_at_call 64; (with_reducible refine (nar2.calls w gh go ga gb _ _ vo out a b _ _ HI.out).mono ?_); rintro e w2 ⟨rfl, hi⟩; have HI2 := Aside0.mk hi; clear hi)
                  go_meet
                  case rel => exact ⟨m, _, _, vo, out, rfl, H4, ⟨by have := HM.out; have := HZ1.out; omega⟩, HI2⟩
                · rw [if_neg hq0] at H3
                  have k0 : ((q : Int) == 0) = false := beq_eq_false_iff_ne.mpr (by omega)
                  clear hq0
                  by_cases hze : z = l5.length
                  · rw [if_pos hze] at H3
                    obtain ⟨p, hp, hpr⟩ := Option.map_eq_some_iff.mp H3
                    have HP := Aside0.mk hp
                    have HPR := Aside0.mk hpr
                    obtain rfl : bz = true := by rw [← HBZ.out]; exact beq_iff_eq.mpr (by omega)
                    obtain ⟨m, hm⟩ : ∃ m, m = min n c := ⟨_, rfl⟩
                    have hmin : ∀ k k' : IntKind, Builtin.min2 (.int k (n : Int)) (.int k' (c : Int)) = pure (.int k (m : Int)) := fun k k' => by
                      rw [min2_int]
                      congr 2
                      split <;> omega
                    obtain ⟨y, hy⟩ : ∃ y, y = q + m := ⟨_, rfl⟩
                    have Ahsy : Aside0 (wrap64 ((q : Int) + (m : Int)) = (y : Int)) := ⟨by rw [hy, Pure.w64' (by omega) (by have := HZ.out; have := HZ1.out; have := HLEN.out; omega)]; omega⟩
                    obtain ⟨A', hcut, hCs, hcs⟩ := cut_seg A5 c5 l5 frm y (by have := HK.out; omega) (by have := HZ.out; have := HZ1.out; omega) HC.out
                    rw [← hm, ← hy] at HP
                    have HCS := Aside0.mk hCs
                    have HCC := Aside0.mk hcs
                    clear H3 hp hpr hze hm hy hCs hcs
                    have hsum := Ahsum.out
                    have hsy := Ahsy.out
                    go_wp2_with (go_at_call 62; (with_reducible refine (nar1.calls k w gh go ga gb _ _ vo out a b A' _ _ p _ HI.out ?s1 HCC.out HP.out).mono ?_); (case s1 => exact Kd.C_below (HCS.out _ HR.out) HI.out.below); rintro e w2 ⟨rfl, v1, hi⟩; have HI2 := Aside0.mk hi; have cg := hi.cells.1; clear hi)
                    go_ret2
                    exact ⟨_, by first | rfl | simp [errW_none], by rw [← HPR.out]; exact HI2.out.o, HI2.out.below⟩
                  · rw [if_neg hze] at H3
                    obtain rfl : bz = false := by rw [← HBZ.out]; exact beq_eq_false_iff_ne.mpr (by omega)
                    clear hze
                    obtain ⟨d, hd⟩ : ∃ d : Int, d = (n : Int) - (c : Int) := ⟨_, rfl⟩
                    have Ahsub : Aside0 (wrap64 ((n : Int) - (c : Int)) = d) := ⟨by rw [hd, Pure.w64' (by omega) (by have := HZ.out; have := HZ1.out; have := HLEN.out; omega)]⟩
                    by_cases hc2 : 2 * c < n
                    · rw [if_pos hc2] at H3
                      obtain ⟨p, hp, hpr⟩ := Option.bind_eq_some_iff.mp H3
                      have HP := Aside0.mk hp
                      have HPR := Aside0.mk hpr
                      have kd1 : decide ((c : Int) < d) = true := decide_eq_true (by omega)
                      obtain ⟨y, hy⟩ : ∃ y, y = q + c := ⟨_, rfl⟩
                      have Ahsy : Aside0 (wrap64 ((q : Int) + (c : Int)) = (y : Int)) := ⟨by rw [hy, Pure.w64' (by omega) (by have := HZ.out; have := HZ1.out; have := HLEN.out; omega)]; omega⟩
                      obtain ⟨c2, hcc⟩ : ∃ c2, c2 = 2 * c := ⟨_, rfl⟩
                      have Ahs2 : Aside0 (wrap64 (2 * (c : Int)) = (c2 : Int)) := ⟨by rw [hcc, Pure.w64' (by omega) (by omega)]; omega⟩
                      obtain ⟨m, hm⟩ : ∃ m, m = n - 2 * c := ⟨_, rfl⟩
                      have Ahsm : Aside0 (wrap64 ((n : Int) - (c2 : Int)) = (m : Int)) := ⟨by rw [hcc, Pure.w64' (by omega) (by have := HZ.out; have := HZ1.out; have := HLEN.out; omega)]; omega⟩
                      have Ahsm2 : Aside0 (wrap64 ((n : Int) - 2 * (c : Int)) = (m : Int)) := ⟨by rw [Pure.w64' (by omega) (by have := HZ.out; have := HZ1.out; have := HLEN.out; omega)]; omega⟩
                      obtain ⟨g, hg⟩ : ∃ g, g = z - c := ⟨_, rfl⟩
                      have Ahsg : Aside0 (wrap64 ((z : Int) - (c : Int)) = (g : Int)) := ⟨by rw [Pure.w64' (by omega) (by have := HZ.out; have := HLEN.out; omega)]; have := HZ1.out; omega⟩
                      obtain ⟨A', hcut, hCs, hcs⟩ := cut_seg A5 c5 l5 frm y (by have := HK.out; omega) (by have := HZ.out; have := HZ1.out; omega) HC.out
                      rw [← hy] at HP
                      rw [← hm, ← hg] at HPR
                      have HCS := Aside0.mk hCs
                      have HCC := Aside0.mk hcs
                      have HG := Aside0.mk (show g ≤ z by omega)
                      clear H3 hp hpr hy hCs hcs hm hg hcc hd hc2
                      have hsum := Ahsum.out
                      have hsub := Ahsub.out
                      have hsy := Ahsy.out
                      have hs2 := Ahs2.out
                      have hsm := Ahsm.out
                      have hsg := Ahsg.out
                      go_wp2_with (first | (go_at_call 62; (with_reducible refine (nar1.calls k w gh go ga gb _ _ vo out a b A' _ _ p _ HI.out ?s1 HCC.out HP.out).mono ?_); (case s1 => exact Kd.C_below (HCS.out _ HR.out) HI.out.below); rintro e w2 ⟨rfl, v1, hi⟩; have HI2 := Aside0.mk hi; clear hi) | (go_at_call 64; (with_reducible refine (nar2.calls w gh go ga gb _ _ _ _ _ _ _ _ HI2.out).mono ?_); rintro e w3 ⟨rfl, hi⟩; have HI3 := Aside0.mk hi; clear hi))
                      go_meet
                      case rel => exact ⟨g, _, _, _, _, (by first | rfl | rw [Ahsg.out]), HPR, HG, ⟨by have h := HI3.out; first | exact h | (simp only [Ahsm2.out] at h; exact h)⟩⟩
                    · rw [if_neg hc2] at H3
                      have H4 := Aside0.mk H3
                      have kd1 : decide ((c : Int) < d) = false := decide_eq_false (by omega)
                      clear H3 hd hc2
                      have hsum := Ahsum.out
                      have hsub := Ahsub.out
                      go_wp2
                      go_meet
                      case rel => exact ⟨frm, a, b, vo, out, rfl, H4, ⟨by have := HK.out; have := HZ1.out; omega⟩, HI⟩
              case rest =>
                clear HI ch5 H2 hsum hbz hbz2
                obtain ⟨frm', a', b', vo', out', rfl, H4, HF, HI⟩ := hcut
                have hsum := Ahsum.out
                go_upto_region 28 with (fail)
                go_loopg [13] (l5.length + 1) (fun kq v13 w' => ∃ y : Nat, v13 = .int .i64 (y : Int) ∧ Aside0 (y + runC (l5.drop y) = nxt l5 q ∧ y ≤ l5.length ∧ y + kq = z + l5.length + 1) ∧ Aside0 (NarIn w gh go ga gb ⟨a0, a1, a2, a3, a4, l5⟩ (.slice A5 l5.length c5) vo' out' a' b' w'))
                case atStart => exact ⟨z, by rw [hsum], ⟨HX1.out, HZ.out, by omega⟩, HI⟩
                case round =>
                  clear HI
                  obtain ⟨y, rfl, HY, HI⟩ := hrel
                  have ch5 := HI.out.rows
                  clear hsum
                  by_cases hn : y < l5.length
                  · have p1 : 0 ≤ (y : Int) := by omega
                    have q1 : (y : Int) < (l5.length : Int) := by omega
                    obtain ⟨ad, e1, hx0, _⟩ := at_T53 HR.out (y : Int) p1 q1
                    replace hx0 := pw_cell_below HI.out.below hx0
                    subst e1
                    simp only [Int.toNat_natCast] at hx0
                    have HRN := Aside0.mk (runC_at l5 y hn)
                    have n1 : decide (y < l5.length) = true := decide_eq_true hn
                    have n2 : decide ((y : Int) < (l5.length : Int)) = true := decide_eq_true q1
                    clear hn
                    generalize (rd_T53 l5 (y : Int)).f0 = kd at hx0 HRN
                    by_cases hk : kd = 1
                    · have kb : (kd == 1) = true := beq_iff_eq.mpr hk
                      have kb2 : (kd != 1) = false := by simp [hk]
                      have HK1 := Aside0.mk (show y = nxt l5 q by have := HY.out; have h2 := HRN.out; rw [if_pos hk] at h2; omega)
                      clear hk HRN
                      go_wp2
                      go_roundg f
                      case measure => omega
                      case rel => exact ⟨nxt l5 q, frm', a', b', vo', out', rfl, by rw [HK1.out], H4, ⟨by have := HF.out; have := HX2.out; omega, HX2.out.2⟩, ⟨HI.out⟩⟩
                    · have kb : (kd == 1) = false := beq_eq_false_iff_ne.mpr hk
                      have kb2 : (kd != 1) = true := by simp [hk]
                      have HK1 := Aside0.mk (show runC (l5.drop y) = runC (l5.drop (y + 1)) + 1 by rw [HRN.out, if_neg hk])
                      have HW : Aside0 (wrap64 ((y : Int) + 1) = ((y + 1 : Nat) : Int)) := ⟨by rw [Pure.w64' (by omega) (by have := HLEN.out; omega)]; omega⟩
                      clear hk HRN
                      go_wp2
                      go_roundg (gk - 1)
                      case measure => have := HY.out; have := HZ.out; omega
                      case rel => exact ⟨y + 1, (by first | (rw [HW.out]; done) | go_num | (simp; done)), ⟨by have h1 := HY.out; have h2 := HK1.out; have h3 := HZ.out; exact ⟨by omega, by omega, by omega⟩⟩, ⟨HI.out⟩⟩
                  · have HK1 := Aside0.mk (show y = nxt l5 q by have := HY.out; have := (run_end l5 y (by omega)).2; omega)
                    have n1 : decide (y < l5.length) = false := decide_eq_false hn
                    have n2 : decide ((y : Int) < (l5.length : Int)) = false := decide_eq_false (by omega)
                    clear hn
                    go_wp2
                    go_roundg f
                    case measure => omega
                    case rel => exact ⟨nxt l5 q, frm', a', b', vo', out', rfl, by rw [HK1.out], H4, ⟨by have := HF.out; have := HX2.out; omega, HX2.out.2⟩, ⟨HI.out⟩⟩
          · rw [if_neg hq] at H1
            obtain ⟨p, hp, hpr⟩ := Option.map_eq_some_iff.mp H1
            have HP := Aside0.mk hp
            have HPR := Aside0.mk hpr
            have z1 : decide (q < l5.length) = false := decide_eq_false hq
            have z2 : decide ((q : Int) < (l5.length : Int)) = false := decide_eq_false (by omega)
            obtain ⟨A', hcut, hCs, hcs⟩ := cut_tail A5 c5 l5 frm (by have := HK.out; omega) HC.out
            have HCS := Aside0.mk hCs
            have HCC := Aside0.mk hcs
            clear H1 hp hpr hq hCs hcs
            go_wp2_with (go_at_call 62; (with_reducible refine (nar1.calls k w gh go ga gb _ _ vo out a b A' _ _ p _ HI.out ?s1 HCC.out HP.out).mono ?_); (case s1 => exact Kd.C_below (HCS.out _ HR.out) HI.out.below); rintro e w2 ⟨rfl, v1, hi⟩; have HI2 := Aside0.mk hi; have cg := hi.cells.1; clear hi)
            go_ret2
            exact ⟨_, by first | rfl | simp [errW_none], by rw [← HPR.out]; exact HI2.out.o, HI2.out.below⟩
end Go.Proofs.YtecjoofjiockkaaGreatDoor.Ext
