/-
  hunks.sides: what a hunk's rows say of both sides; walked by hand (two variables are handed on by address).
-/
import Derived.Test.YtecjoofjiockkaaDoorPp3
import Derived.Test.YtecjoofjiockkaaDoorEPure
import Derived.OneCell
namespace Go.Proofs.YtecjoofjiockkaaDoor.Ext
open Go.RowKit Go.Proofs.YtecjoofjiockkaaDoor.Pp Go.Proofs.YtecjoofjiockkaaDoorW.PrintWords Go.Proofs.YtecjoofjiockkaaDoorW.PrintLast Go.Proofs.YtecjoofjiockkaaDoorW.PrintMore
set_option linter.unusedVariables false
set_option linter.unusedSimpArgs false
theorem results_cct {P : Program} {fn : Func} {p p' u : Tmp} {ty ty' : TypeId} (h : fn.results = #[.cell p ty, .cell p' ty', .tmp u]) (tmps : Array Value) (w : World) (g g' : Nat) (t t' : TypeId) (cs cs' : Array Value) (fr fr' : Nat × Nat) (d d' : TypeDesc)
    (hp : tmps.getD p undef = .pointer (some ⟨g, 0, none⟩)) (hg : w.heap[g]? = some (.cells cs t fr))
    (hu : P.underlying ty = some d) (hd : (match d with | .struct _ | .array _ _ => true | _ => false) = true) (hi : (P.info? ty).map (·.size) = some cs.size)
    (hp' : tmps.getD p' undef = .pointer (some ⟨g', 0, none⟩)) (hg' : w.heap[g']? = some (.cells cs' t' fr'))
    (hu' : P.underlying ty' = some d') (hd' : (match d' with | .struct _ | .array _ _ => true | _ => false) = true) (hi' : (P.info? ty').map (·.size) = some cs'.size) :
    (results fn tmps).run P w = .ok (.tuple #[.agg cs, .agg cs', tmps.getD u undef]) w := by
  have h1 : tmps[p]?.getD undef = .pointer (some ⟨g, 0, none⟩) := by simpa using hp
  have h2 : tmps[p']?.getD undef = .pointer (some ⟨g', 0, none⟩) := by simpa using hp'
  simp [results, h, h1, h2, asAddr, run_loadVar_row w g t ty cs fr d hg hu hd hi, run_loadVar_row w g' t' ty' cs' fr' d' hg' hu' hd' hi']
theorem dropS {α : Type} (l : List α) (d : α) (i : Nat) (h : i < l.length) : l.drop i = l.getD i d :: l.drop (i + 1) := by
  rw [List.getD_eq_getElem?_getD, List.getElem?_eq_getElem h]
  exact List.drop_eq_getElem_cons h
def addIf (b : Bool) (c : Int) (e : Bool) (s : ByteArray) : Option (Bool × Int × Bool) := if b = true then hunks_side_add.f c e s else some (true, c, e)
def sidesF : List S56 → Int → Bool → Int → Bool → Bool → Option ((Int × Bool) × (Int × Bool) × Bool)
  | [], c, e, d, f, ch => some ((c, e), (d, f), ch)
  | r :: t, c, e, d, f, ch =>
    if r.f0 < 1 then some ((c, e), (d, f), false) else if 3 < r.f0 then some ((c, e), (d, f), false) else
    (hunks_line.f r.f1).bind fun ln => if ln = true then
      ((addIf (r.f0 != 3) c e r.f1).bind fun x => if x.1 = true then
        ((addIf (r.f0 != 2) d f r.f1).bind fun y => if y.1 = true then sidesF t x.2.1 x.2.2 y.2.1 y.2.2 (ch || (r.f0 != 1)) else some ((x.2.1, x.2.2), (y.2.1, y.2.2), false))
        else some ((x.2.1, x.2.2), (d, f), false))
      else some ((c, e), (d, f), false)
structure SideIn (w0 : World) (g2 g3 : Nat) (c : Int) (e : Bool) (d : Int) (f : Bool) (w : World) : Prop where
  below : Below w0.heap.size w0 w
  ge2 : w0.heap.size ≤ g2
  ge3 : w0.heap.size ≤ g3
  b2 : w.heap[g2]? = some (.cells #[.int .i64 c, .bool e] 74 (0, 0))
  b3 : w.heap[g3]? = some (.cells #[.int .i64 d, .bool f] 74 (0, 0))
section
variable {w0 w w' : World} {g2 g3 : Nat} {c d c' d' : Int} {e f e' f' : Bool}
theorem SideIn.then (h : SideIn w0 g2 g3 c e d f w) (k : Below w.heap.size w w') : SideIn w0 g2 g3 c e d f w' := ⟨below_step h.below k, h.ge2, h.ge3, blk_below h.b2 k, blk_below h.b3 k⟩
theorem SideIn.add2 (h : SideIn w0 g2 g3 c e d f w) (hne : g2 ≠ g3) (k : KeepBut w w' g2 none) (hi : IsS74 w0 w' g2 c' e') (hb : Below w0.heap.size w0 w') : SideIn w0 g2 g3 c' e' d f w' :=
  ⟨hb, h.ge2, h.ge3, hi.1, (k.2 g3 (blk_lt h.b3) (Ne.symm hne) (by simp)).trans h.b3⟩
theorem SideIn.add3 (h : SideIn w0 g2 g3 c e d f w) (hne : g2 ≠ g3) (k : KeepBut w w' g3 none) (hi : IsS74 w0 w' g3 c' e') (hb : Below w0.heap.size w0 w') : SideIn w0 g2 g3 c e c' e' w' :=
  ⟨hb, h.ge2, h.ge3, (k.2 g2 (blk_lt h.b2) hne (by simp)).trans h.b2, hi.1⟩
theorem blk_same {w : World} {g : Nat} {t : TypeId} {cs cs' : Array Value} (h : w.heap[g]? = some (.cells cs t (0, 0))) (i : Nat) (u : Value) (e : cs.setIfInBounds i u = cs') : (w.setCell ⟨g, i, none⟩ u).heap[g]? = some (.cells cs' t (0, 0)) := by rw [← e]; exact blk_set h i u
theorem SideIn.same2 (h : SideIn w0 g2 g3 c e d f w) (hne : g2 ≠ g3) : SideIn w0 g2 g3 c e d f ((w.setCell ⟨g2, 0, none⟩ (.int .i64 c)).setCell ⟨g2, 1, none⟩ (.bool e)) :=
  ⟨below_set (below_set h.below h.ge2) h.ge2, h.ge2, h.ge3, blk_same (blk_same h.b2 0 _ rfl) 1 _ rfl, blk_far (blk_far h.b3 (Ne.symm hne) _) (Ne.symm hne) _⟩
theorem SideIn.same3 (h : SideIn w0 g2 g3 c e d f w) (hne : g2 ≠ g3) : SideIn w0 g2 g3 c e d f ((w.setCell ⟨g3, 0, none⟩ (.int .i64 d)).setCell ⟨g3, 1, none⟩ (.bool f)) :=
  ⟨below_set (below_set h.below h.ge3) h.ge3, h.ge2, h.ge3, blk_far (blk_far h.b2 hne _) hne _, blk_same (blk_same h.b3 0 _ rfl) 1 _ rfl⟩
end
def hunks_sides.f (a0_0 a0_1 a0_2 a0_3 : Int) (a0_4 : ByteArray) (l0_5 : List S56) : Option (Int × Bool × Int × Bool × Bool) :=
  if l0_5.length ≤ 9223372036854775807 then (sidesF l0_5 0 false 0 false false).map fun x => (x.1.1, x.1.2, x.2.1.1, x.2.1.2, x.2.2) else none
set_option maxHeartbeats 16000000 in
set_option maxRecDepth 100000 in
theorem hunks_sides.calls (a0_0 : Int) (a0_1 : Int) (a0_2 : Int) (a0_3 : Int) (a0_4 : ByteArray) (A0_5 : Option Addr) (c0_5 : Nat) (l0_5 : List S56) (r1 : Int) (r2 : Bool) (r3 : Int) (r4 : Bool) (r5 : Bool) (w : World)
    (hr0_5 : Kd.C k56 w A0_5 l0_5.length l0_5) (hc0_5 : l0_5.length ≤ c0_5) (h : hunks_sides.f a0_0 a0_1 a0_2 a0_3 a0_4 l0_5 = some (r1, r2, r3, r4, r5)) :
    Calls Tryd.prog 34 #[.agg #[.int .i64 a0_0, .int .i64 a0_1, .int .i64 a0_2, .int .i64 a0_3, .string a0_4, .slice A0_5 l0_5.length c0_5]] w fun e w' =>
      e = .returned (.tuple #[.agg #[.int .i64 r1, .bool r2], .agg #[.int .i64 r3, .bool r4], .bool r5]) ∧ Below w.heap.size w w' := by
  have _ := hc0_5
  unfold hunks_sides.f at h
  split at h
  case isFalse => cases h
  rename_i hlen
  obtain ⟨x, hx, he⟩ := Option.map_eq_some_iff.mp h
  obtain ⟨⟨x1, x2⟩, ⟨x3, x4⟩, x5⟩ := x
  simp only [Prod.mk.injEq] at he
  obtain ⟨rfl, rfl, rfl, rfl, rfl⟩ := he
  have HR := Aside0.mk hr0_5
  have HX := Aside0.mk hx
  have HL := Aside0.mk hlen
  clear h hx hr0_5 hlen
  go_enter Tryd.func34, Tryd.ntmps34
  go_upto_region 1 with (fail)
  have HI : Aside0 (SideIn w (w.heap.size + 1) (w.heap.size + 1 + 1) 0 false 0 false (((w.alloc (Obj.cells #[Value.int .i64 a0_0, Value.int .i64 a0_1, Value.int .i64 a0_2, Value.int .i64 a0_3, Value.string a0_4, Value.slice A0_5 l0_5.length c0_5] 41)).alloc (Obj.cells #[Value.int .i64 0, Value.bool false] 74)).alloc (Obj.cells #[Value.int .i64 0, Value.bool false] 74))) := ⟨by
    have s1 : (w.alloc (Obj.cells #[Value.int .i64 a0_0, Value.int .i64 a0_1, Value.int .i64 a0_2, Value.int .i64 a0_3, Value.string a0_4, Value.slice A0_5 l0_5.length c0_5] 41)).heap.size = w.heap.size + 1 := by simp
    have s2 : ((w.alloc (Obj.cells #[Value.int .i64 a0_0, Value.int .i64 a0_1, Value.int .i64 a0_2, Value.int .i64 a0_3, Value.string a0_4, Value.slice A0_5 l0_5.length c0_5] 41)).alloc (Obj.cells #[Value.int .i64 0, Value.bool false] 74)).heap.size = w.heap.size + 1 + 1 := by simp
    refine ⟨below_alloc (below_alloc (below_alloc (Below.refl _ _) _) _) _, by omega, by omega, ?_, ?_⟩
    · have := blk_new (w.alloc (Obj.cells #[Value.int .i64 a0_0, Value.int .i64 a0_1, Value.int .i64 a0_2, Value.int .i64 a0_3, Value.string a0_4, Value.slice A0_5 l0_5.length c0_5] 41)) (Obj.cells #[Value.int .i64 0, Value.bool false] 74)
      rw [s1] at this
      exact blk_alloc this _
    · have := blk_new ((w.alloc (Obj.cells #[Value.int .i64 a0_0, Value.int .i64 a0_1, Value.int .i64 a0_2, Value.int .i64 a0_3, Value.string a0_4, Value.slice A0_5 l0_5.length c0_5] 41)).alloc (Obj.cells #[Value.int .i64 0, Value.bool false] 74)) (Obj.cells #[Value.int .i64 0, Value.bool false] 74)
      rw [s2] at this
      exact this⟩
  have hc5 : (((w.alloc (Obj.cells #[Value.int .i64 a0_0, Value.int .i64 a0_1, Value.int .i64 a0_2, Value.int .i64 a0_3, Value.string a0_4, Value.slice A0_5 l0_5.length c0_5] 41)).alloc (Obj.cells #[Value.int .i64 0, Value.bool false] 74)).alloc (Obj.cells #[Value.int .i64 0, Value.bool false] 74)).cell? ⟨w.heap.size, 5, none⟩ = some (.slice A0_5 l0_5.length c0_5) := (blk_cell (blk_alloc (blk_alloc (blk_new _ _) _) _) 5).trans rfl
  generalize (((w.alloc (Obj.cells #[Value.int .i64 a0_0, Value.int .i64 a0_1, Value.int .i64 a0_2, Value.int .i64 a0_3, Value.string a0_4, Value.slice A0_5 l0_5.length c0_5] 41)).alloc (Obj.cells #[Value.int .i64 0, Value.bool false] 74)).alloc (Obj.cells #[Value.int .i64 0, Value.bool false] 74)) = W at HI hc5 ⊢
  obtain ⟨g2, hg2⟩ : ∃ g2, g2 = w.heap.size + 1 := ⟨_, rfl⟩
  obtain ⟨g3, hg3⟩ : ∃ g3, g3 = g2 + 1 := ⟨_, rfl⟩
  rw [← hg2] at HI ⊢
  rw [← hg3] at HI ⊢
  have NE := Aside0.mk (show g2 ≠ g3 by omega)
  have HG2 := Aside0.mk hg2
  clear hg2 hg3
  go_wp2
  clear hc5
  go_loopg [4, 5, 7, 11] (l0_5.length + 1) (fun kq v4 v5 v7 v11 w' => ∃ (i : Nat) (c d : Int) (e f ch : Bool), v11 = .int .i64 (i : Int) ∧ v5 = .bool ch ∧ Aside0 (i + kq = l0_5.length + 1 ∧ i ≤ l0_5.length) ∧ Aside0 (sidesF (l0_5.drop i) c e d f ch = some ((x1, x2), (x3, x4), x5)) ∧ Aside0 (SideIn w g2 g3 c e d f w'))
  case atStart => exact ⟨0, 0, 0, false, false, false, rfl, rfl, ⟨by omega⟩, HX, HI⟩
  case round =>
    clear HI HX
    obtain ⟨i, c, d, e, f, ch, rfl, rfl, HK, H, HI⟩ := hrel
    by_cases hi : i < l0_5.length
    · have p1 : 0 ≤ (i : Int) := by omega
      have q1 : (i : Int) < (l0_5.length : Int) := by omega
      have H1 := H.out
      rw [dropS l0_5 z56 i hi] at H1
      simp only [sidesF] at H1
      have hrd : l0_5.getD i z56 = rd_T56 l0_5 (i : Int) := rfl
      rw [hrd] at H1
      obtain ⟨ad, e1, hx0, hx1⟩ := at_T56 (Kd.C_below HR.out HI.out.below) (i : Int) p1 q1
      cases e1
      simp only [Int.toNat_natCast] at hx0 hx1
      have LZ := Aside0.mk HI.out.below.size
      have L2 := Aside0.mk (blk_lt HI.out.b2)
      have L3 := Aside0.mk (blk_lt HI.out.b3)
      have z1 : decide ((i : Int) < (l0_5.length : Int)) = true := decide_eq_true q1
      generalize rd_T56 l0_5 (i : Int) = r at H1 hx0 hx1
      clear hrd H
      have H := Aside0.mk H1
      clear H1
      go_upto_region 5 with (first | ((with_reducible refine gate_dst (N := 7) rfl ?_); refine box_event ?hg (N := 7) ?hd (cs := #[.int .i64 0, .string ⟨#[]⟩]) (t := 56) ?hr ?_; (case hd => rfl); (case hg => rfl); (case hr => first | (go_simp; done) | (go_simp; rfl)); intro gb hg wx hbox hb; have HX := Aside0.mk (HI.out.then hb); have BK := Aside0.mk hbox; clear HI; have HGB := Aside0.mk hg; clear hb hg; have hcz_0 : wx.cell? ⟨gb, 0, none⟩ = some (.int .i64 0) := (blk_cell hbox 0).trans rfl; have hcz_1 : wx.cell? ⟨gb, 1, none⟩ = some (.string ⟨#[]⟩) := (blk_cell hbox 1).trans rfl; have hfz_0 := blk_frozen hbox 0; have hfz_1 := blk_frozen hbox 1; clear hbox))
      generalize hW4 : ((wx.setCell ⟨gb, 0, none⟩ (.int .i64 r.f0)).setCell ⟨gb, 1, none⟩ (.string r.f1)) = W4
      have hgb := HGB.out
      have N2 : Aside0 (g2 ≠ gb) := ⟨by have := L2.out; omega⟩
      have N3 : Aside0 (g3 ≠ gb) := ⟨by have := L3.out; omega⟩
      have BK4 : Aside0 (W4.heap[gb]? = some (.cells #[(.int .i64 r.f0), (.string r.f1)] 56 (0, 0))) := ⟨by rw [← hW4]; exact blk_set (blk_set BK.out 0 _) 1 _⟩
      have HI : Aside0 (SideIn w g2 g3 c e d f W4) := ⟨by
        have h0 := HX.out
        have n4 : w.heap.size ≤ gb := by have := LZ.out; omega
        rw [← hW4]
        exact ⟨below_set (below_set h0.below n4) n4, h0.ge2, h0.ge3, blk_far (blk_far h0.b2 N2.out _) N2.out _, blk_far (blk_far h0.b3 N3.out _) N3.out _⟩⟩
      clear hgb hW4 hcz_0 hcz_1 hfz_0 hfz_1 HX BK hx0 hx1
      have k0 : W4.cell? ⟨gb, 0, none⟩ = some (.int .i64 r.f0) := (blk_cell BK4.out 0).trans rfl
      have k1 : W4.cell? ⟨gb, 1, none⟩ = some (.string r.f1) := (blk_cell BK4.out 1).trans rfl
      have h1 := H.out
      by_cases t1 : r.f0 < 1
      · have y1 : decide (r.f0 < 1) = true := decide_eq_true t1
        rw [if_pos t1] at h1
        simp only [Option.some.injEq, Prod.mk.injEq] at h1
        obtain ⟨⟨rfl, rfl⟩, ⟨rfl, rfl⟩, rfl⟩ := h1
        have a20 := (blk_cell HI.out.b2 0).trans rfl
        have a21 := (blk_cell HI.out.b2 1).trans rfl
        have a30 := (blk_cell HI.out.b3 0).trans rfl
        have a31 := (blk_cell HI.out.b3 1).trans rfl
        have f20 := blk_frozen HI.out.b2 0
        have f21 := blk_frozen HI.out.b2 1
        have f30 := blk_frozen HI.out.b3 0
        have f31 := blk_frozen HI.out.b3 1
        have ne1 := NE.out
        have ne2 := Ne.symm NE.out
        go_wp2
        have X_ := (HI.out.same2 NE.out).same3 NE.out
        refine bodyPost_ret (results_cct rfl _ _ g2 g3 74 74 _ _ _ _ _ _ rfl X_.b2 Tryd.underlying74 rfl (by kernel_rfl) rfl X_.b3 Tryd.underlying74 rfl (by kernel_rfl)) rfl ⟨rfl, X_.below⟩
      · rw [if_neg t1] at h1
        by_cases t2 : 3 < r.f0
        · have y1 : decide (r.f0 < 1) = false := decide_eq_false t1
          have y0 : decide (3 < r.f0) = true := decide_eq_true t2
          rw [if_pos t2] at h1
          simp only [Option.some.injEq, Prod.mk.injEq] at h1
          obtain ⟨⟨rfl, rfl⟩, ⟨rfl, rfl⟩, rfl⟩ := h1
          have a20 := (blk_cell HI.out.b2 0).trans rfl
          have a21 := (blk_cell HI.out.b2 1).trans rfl
          have a30 := (blk_cell HI.out.b3 0).trans rfl
          have a31 := (blk_cell HI.out.b3 1).trans rfl
          have f20 := blk_frozen HI.out.b2 0
          have f21 := blk_frozen HI.out.b2 1
          have f30 := blk_frozen HI.out.b3 0
          have f31 := blk_frozen HI.out.b3 1
          have ne1 := NE.out
          have ne2 := Ne.symm NE.out
          go_wp2
          have X_ := (HI.out.same2 NE.out).same3 NE.out
          refine bodyPost_ret (results_cct rfl _ _ g2 g3 74 74 _ _ _ _ _ _ rfl X_.b2 Tryd.underlying74 rfl (by kernel_rfl) rfl X_.b3 Tryd.underlying74 rfl (by kernel_rfl)) rfl ⟨rfl, X_.below⟩
        · rw [if_neg t2] at h1
          obtain ⟨ln, hln, h1⟩ := Option.bind_eq_some_iff.mp h1
          have HLN := Aside0.mk hln
          clear hln H
          cases ln with
          | false =>
            have y1 : decide (r.f0 < 1) = false := decide_eq_false t1
            have y0 : decide (3 < r.f0) = false := decide_eq_false t2
            rw [if_neg (by simp)] at h1
            simp only [Option.some.injEq, Prod.mk.injEq] at h1
            obtain ⟨⟨rfl, rfl⟩, ⟨rfl, rfl⟩, rfl⟩ := h1
            have a20 := (blk_cell HI.out.b2 0).trans rfl
            have a21 := (blk_cell HI.out.b2 1).trans rfl
            have a30 := (blk_cell HI.out.b3 0).trans rfl
            have a31 := (blk_cell HI.out.b3 1).trans rfl
            have f20 := blk_frozen HI.out.b2 0
            have f21 := blk_frozen HI.out.b2 1
            have f30 := blk_frozen HI.out.b3 0
            have f31 := blk_frozen HI.out.b3 1
            have ne1 := NE.out
            have ne2 := Ne.symm NE.out
            go_wp2_with (first | (go_at_call 50; (with_reducible refine (hunks_line.calls r.f1 false _ HLN.out).mono ?_); rintro x w1 ⟨rfl, ⟨nd, rfl⟩⟩; have HI1_ := Aside0.mk (HI.out.then (pw_below_drewN (Below.refl _ _) nd)); clear HI; have HI := HI1_; clear HI1_))
            have X_ := (HI.out.same2 NE.out).same3 NE.out
            refine bodyPost_ret (results_cct rfl _ _ g2 g3 74 74 _ _ _ _ _ _ rfl X_.b2 Tryd.underlying74 rfl (by kernel_rfl) rfl X_.b3 Tryd.underlying74 rfl (by kernel_rfl)) rfl ⟨rfl, X_.below⟩
          | true =>
            rw [if_pos rfl] at h1
            rcases (show r.f0 = 1 ∨ r.f0 = 2 ∨ r.f0 = 3 by omega) with tk | tk | tk
            · have y1 : decide (r.f0 < 1) = false := decide_eq_false (by omega)
              have y0 : decide (3 < r.f0) = false := decide_eq_false (by omega)
              have y3 : (r.f0 != 3) = true := bne_iff_ne.mpr (by omega)
              have y2 : (r.f0 != 2) = true := bne_iff_ne.mpr (by omega)
              have y5 : (r.f0 != 1) = false := bne_eq_false_iff_eq.mpr (by omega)
              obtain ⟨x, hx, h1⟩ := Option.bind_eq_some_iff.mp h1
              unfold addIf at hx
              rw [y3, if_pos rfl] at hx
              obtain ⟨b', c', e'⟩ := x
              cases b' with
              | false =>
                have HA2 := Aside0.mk hx
                clear hx
                rw [if_neg (by simp)] at h1
                simp only [Option.some.injEq, Prod.mk.injEq] at h1
                obtain ⟨⟨rfl, rfl⟩, ⟨rfl, rfl⟩, rfl⟩ := h1
                cases ch with
                | false =>
                  go_wp2_with (first | (go_at_call 50; (with_reducible refine (hunks_line.calls r.f1 true _ HLN.out).mono ?_); rintro x w1 ⟨rfl, ⟨nd, rfl⟩⟩; have HI1_ := Aside0.mk (HI.out.then (pw_below_drewN (Below.refl _ _) nd)); clear HI; have HI := HI1_; clear HI1_) | (go_at_call 51; (with_reducible refine (hunks_side_add.calls g2 c e r.f1 false c' e' w _ ?s1 ?s2 HA2.out).mono ?_); (case s1 => exact ⟨HI.out.b2, HI.out.ge2⟩); (case s2 => first | exact HI.out.below | exact pw_below_drewN HI.out.below _); rintro x w1 ⟨rfl, hi_, hb_, hk_⟩; have HI1_ := Aside0.mk (SideIn.add2 HI.out NE.out hk_ hi_ hb_); have BK1_ := Aside0.mk ((hk_.2 gb (blk_lt BK4.out) (Ne.symm N2.out) (by simp)).trans BK4.out); clear HI BK4 k0 k1 hi_ hb_ hk_; have HI := HI1_; have BK4 := BK1_; clear HI1_ BK1_; have k0 := (blk_cell BK4.out 0).trans rfl; have k1 := (blk_cell BK4.out 1).trans rfl; have a20 := (blk_cell HI.out.b2 0).trans rfl; have a21 := (blk_cell HI.out.b2 1).trans rfl; have a30 := (blk_cell HI.out.b3 0).trans rfl; have a31 := (blk_cell HI.out.b3 1).trans rfl; have f20 := blk_frozen HI.out.b2 0; have f21 := blk_frozen HI.out.b2 1; have f30 := blk_frozen HI.out.b3 0; have f31 := blk_frozen HI.out.b3 1; have ne1 := NE.out; have ne2 := Ne.symm NE.out))
                  have X_ := (HI.out.same2 NE.out).same3 NE.out
                  refine bodyPost_ret (results_cct rfl _ _ g2 g3 74 74 _ _ _ _ _ _ rfl X_.b2 Tryd.underlying74 rfl (by kernel_rfl) rfl X_.b3 Tryd.underlying74 rfl (by kernel_rfl)) rfl ⟨rfl, X_.below⟩
                | true =>
                  go_wp2_with (first | (go_at_call 50; (with_reducible refine (hunks_line.calls r.f1 true _ HLN.out).mono ?_); rintro x w1 ⟨rfl, ⟨nd, rfl⟩⟩; have HI1_ := Aside0.mk (HI.out.then (pw_below_drewN (Below.refl _ _) nd)); clear HI; have HI := HI1_; clear HI1_) | (go_at_call 51; (with_reducible refine (hunks_side_add.calls g2 c e r.f1 false c' e' w _ ?s1 ?s2 HA2.out).mono ?_); (case s1 => exact ⟨HI.out.b2, HI.out.ge2⟩); (case s2 => first | exact HI.out.below | exact pw_below_drewN HI.out.below _); rintro x w1 ⟨rfl, hi_, hb_, hk_⟩; have HI1_ := Aside0.mk (SideIn.add2 HI.out NE.out hk_ hi_ hb_); have BK1_ := Aside0.mk ((hk_.2 gb (blk_lt BK4.out) (Ne.symm N2.out) (by simp)).trans BK4.out); clear HI BK4 k0 k1 hi_ hb_ hk_; have HI := HI1_; have BK4 := BK1_; clear HI1_ BK1_; have k0 := (blk_cell BK4.out 0).trans rfl; have k1 := (blk_cell BK4.out 1).trans rfl; have a20 := (blk_cell HI.out.b2 0).trans rfl; have a21 := (blk_cell HI.out.b2 1).trans rfl; have a30 := (blk_cell HI.out.b3 0).trans rfl; have a31 := (blk_cell HI.out.b3 1).trans rfl; have f20 := blk_frozen HI.out.b2 0; have f21 := blk_frozen HI.out.b2 1; have f30 := blk_frozen HI.out.b3 0; have f31 := blk_frozen HI.out.b3 1; have ne1 := NE.out; have ne2 := Ne.symm NE.out))
                  have X_ := (HI.out.same2 NE.out).same3 NE.out
                  refine bodyPost_ret (results_cct rfl _ _ g2 g3 74 74 _ _ _ _ _ _ rfl X_.b2 Tryd.underlying74 rfl (by kernel_rfl) rfl X_.b3 Tryd.underlying74 rfl (by kernel_rfl)) rfl ⟨rfl, X_.below⟩
              | true =>
                have HA2 := Aside0.mk hx
                clear hx
                rw [if_pos rfl] at h1
                obtain ⟨y, hy, h1⟩ := Option.bind_eq_some_iff.mp h1
                unfold addIf at hy
                rw [y2, if_pos rfl] at hy
                obtain ⟨b', d', f'⟩ := y
                have HA3 := Aside0.mk hy
                clear hy
                cases b' with
                | false =>
                  rw [if_neg (by simp)] at h1
                  simp only [Option.some.injEq, Prod.mk.injEq] at h1
                  obtain ⟨⟨rfl, rfl⟩, ⟨rfl, rfl⟩, rfl⟩ := h1
                  cases ch with
                  | false =>
                    go_wp2_with (first | (go_at_call 50; (with_reducible refine (hunks_line.calls r.f1 true _ HLN.out).mono ?_); rintro x w1 ⟨rfl, ⟨nd, rfl⟩⟩; have HI1_ := Aside0.mk (HI.out.then (pw_below_drewN (Below.refl _ _) nd)); clear HI; have HI := HI1_; clear HI1_) | (go_at_call 51; (with_reducible refine (hunks_side_add.calls g2 c e r.f1 true c' e' w _ ?s1 ?s2 HA2.out).mono ?_); (case s1 => exact ⟨HI.out.b2, HI.out.ge2⟩); (case s2 => first | exact HI.out.below | exact pw_below_drewN HI.out.below _); rintro x w1 ⟨rfl, hi_, hb_, hk_⟩; have HI1_ := Aside0.mk (SideIn.add2 HI.out NE.out hk_ hi_ hb_); have BK1_ := Aside0.mk ((hk_.2 gb (blk_lt BK4.out) (Ne.symm N2.out) (by simp)).trans BK4.out); clear HI BK4 k0 k1 hi_ hb_ hk_; have HI := HI1_; have BK4 := BK1_; clear HI1_ BK1_; have k0 := (blk_cell BK4.out 0).trans rfl; have k1 := (blk_cell BK4.out 1).trans rfl) | (go_at_call 51; (with_reducible refine (hunks_side_add.calls g3 d f r.f1 false d' f' w _ ?s1 ?s2 HA3.out).mono ?_); (case s1 => exact ⟨HI.out.b3, HI.out.ge3⟩); (case s2 => first | exact HI.out.below | exact pw_below_drewN HI.out.below _); rintro x w1 ⟨rfl, hi_, hb_, hk_⟩; have HI1_ := Aside0.mk (SideIn.add3 HI.out NE.out hk_ hi_ hb_); have BK1_ := Aside0.mk ((hk_.2 gb (blk_lt BK4.out) (Ne.symm N3.out) (by simp)).trans BK4.out); clear HI BK4 k0 k1 hi_ hb_ hk_; have HI := HI1_; have BK4 := BK1_; clear HI1_ BK1_; have k0 := (blk_cell BK4.out 0).trans rfl; have k1 := (blk_cell BK4.out 1).trans rfl; have a20 := (blk_cell HI.out.b2 0).trans rfl; have a21 := (blk_cell HI.out.b2 1).trans rfl; have a30 := (blk_cell HI.out.b3 0).trans rfl; have a31 := (blk_cell HI.out.b3 1).trans rfl; have f20 := blk_frozen HI.out.b2 0; have f21 := blk_frozen HI.out.b2 1; have f30 := blk_frozen HI.out.b3 0; have f31 := blk_frozen HI.out.b3 1; have ne1 := NE.out; have ne2 := Ne.symm NE.out))
                    have X_ := (HI.out.same2 NE.out).same3 NE.out
                    refine bodyPost_ret (results_cct rfl _ _ g2 g3 74 74 _ _ _ _ _ _ rfl X_.b2 Tryd.underlying74 rfl (by kernel_rfl) rfl X_.b3 Tryd.underlying74 rfl (by kernel_rfl)) rfl ⟨rfl, X_.below⟩
                  | true =>
                    go_wp2_with (first | (go_at_call 50; (with_reducible refine (hunks_line.calls r.f1 true _ HLN.out).mono ?_); rintro x w1 ⟨rfl, ⟨nd, rfl⟩⟩; have HI1_ := Aside0.mk (HI.out.then (pw_below_drewN (Below.refl _ _) nd)); clear HI; have HI := HI1_; clear HI1_) | (go_at_call 51; (with_reducible refine (hunks_side_add.calls g2 c e r.f1 true c' e' w _ ?s1 ?s2 HA2.out).mono ?_); (case s1 => exact ⟨HI.out.b2, HI.out.ge2⟩); (case s2 => first | exact HI.out.below | exact pw_below_drewN HI.out.below _); rintro x w1 ⟨rfl, hi_, hb_, hk_⟩; have HI1_ := Aside0.mk (SideIn.add2 HI.out NE.out hk_ hi_ hb_); have BK1_ := Aside0.mk ((hk_.2 gb (blk_lt BK4.out) (Ne.symm N2.out) (by simp)).trans BK4.out); clear HI BK4 k0 k1 hi_ hb_ hk_; have HI := HI1_; have BK4 := BK1_; clear HI1_ BK1_; have k0 := (blk_cell BK4.out 0).trans rfl; have k1 := (blk_cell BK4.out 1).trans rfl) | (go_at_call 51; (with_reducible refine (hunks_side_add.calls g3 d f r.f1 false d' f' w _ ?s1 ?s2 HA3.out).mono ?_); (case s1 => exact ⟨HI.out.b3, HI.out.ge3⟩); (case s2 => first | exact HI.out.below | exact pw_below_drewN HI.out.below _); rintro x w1 ⟨rfl, hi_, hb_, hk_⟩; have HI1_ := Aside0.mk (SideIn.add3 HI.out NE.out hk_ hi_ hb_); have BK1_ := Aside0.mk ((hk_.2 gb (blk_lt BK4.out) (Ne.symm N3.out) (by simp)).trans BK4.out); clear HI BK4 k0 k1 hi_ hb_ hk_; have HI := HI1_; have BK4 := BK1_; clear HI1_ BK1_; have k0 := (blk_cell BK4.out 0).trans rfl; have k1 := (blk_cell BK4.out 1).trans rfl; have a20 := (blk_cell HI.out.b2 0).trans rfl; have a21 := (blk_cell HI.out.b2 1).trans rfl; have a30 := (blk_cell HI.out.b3 0).trans rfl; have a31 := (blk_cell HI.out.b3 1).trans rfl; have f20 := blk_frozen HI.out.b2 0; have f21 := blk_frozen HI.out.b2 1; have f30 := blk_frozen HI.out.b3 0; have f31 := blk_frozen HI.out.b3 1; have ne1 := NE.out; have ne2 := Ne.symm NE.out))
                    have X_ := (HI.out.same2 NE.out).same3 NE.out
                    refine bodyPost_ret (results_cct rfl _ _ g2 g3 74 74 _ _ _ _ _ _ rfl X_.b2 Tryd.underlying74 rfl (by kernel_rfl) rfl X_.b3 Tryd.underlying74 rfl (by kernel_rfl)) rfl ⟨rfl, X_.below⟩
                | true =>
                  rw [if_pos rfl, y5] at h1
                  have H := Aside0.mk h1
                  clear h1
                  cases ch with
                  | false =>
                    go_wp2_with (first | (go_at_call 50; (with_reducible refine (hunks_line.calls r.f1 true _ HLN.out).mono ?_); rintro x w1 ⟨rfl, ⟨nd, rfl⟩⟩; have HI1_ := Aside0.mk (HI.out.then (pw_below_drewN (Below.refl _ _) nd)); clear HI; have HI := HI1_; clear HI1_) | (go_at_call 51; (with_reducible refine (hunks_side_add.calls g2 c e r.f1 true c' e' w _ ?s1 ?s2 HA2.out).mono ?_); (case s1 => exact ⟨HI.out.b2, HI.out.ge2⟩); (case s2 => first | exact HI.out.below | exact pw_below_drewN HI.out.below _); rintro x w1 ⟨rfl, hi_, hb_, hk_⟩; have HI1_ := Aside0.mk (SideIn.add2 HI.out NE.out hk_ hi_ hb_); have BK1_ := Aside0.mk ((hk_.2 gb (blk_lt BK4.out) (Ne.symm N2.out) (by simp)).trans BK4.out); clear HI BK4 k0 k1 hi_ hb_ hk_; have HI := HI1_; have BK4 := BK1_; clear HI1_ BK1_; have k0 := (blk_cell BK4.out 0).trans rfl; have k1 := (blk_cell BK4.out 1).trans rfl) | (go_at_call 51; (with_reducible refine (hunks_side_add.calls g3 d f r.f1 true d' f' w _ ?s1 ?s2 HA3.out).mono ?_); (case s1 => exact ⟨HI.out.b3, HI.out.ge3⟩); (case s2 => first | exact HI.out.below | exact pw_below_drewN HI.out.below _); rintro x w1 ⟨rfl, hi_, hb_, hk_⟩; have HI1_ := Aside0.mk (SideIn.add3 HI.out NE.out hk_ hi_ hb_); have BK1_ := Aside0.mk ((hk_.2 gb (blk_lt BK4.out) (Ne.symm N3.out) (by simp)).trans BK4.out); clear HI BK4 k0 k1 hi_ hb_ hk_; have HI := HI1_; have BK4 := BK1_; clear HI1_ BK1_; have k0 := (blk_cell BK4.out 0).trans rfl; have k1 := (blk_cell BK4.out 1).trans rfl))
                    go_roundg (gk - 1)
                    case measure => have := HK.out; omega
                    case rel => exact ⟨i + 1, c', d', e', f', _, (by have hw_ : wrap64 ((i : Int) + 1) = ((i + 1 : Nat) : Int) := (by rw [Pure.w64' (by omega) (by have := HL.out; omega)]; omega); first | (rw [hw_]; done) | go_num | (simp; done)), rfl, ⟨by have := HK.out; omega⟩, ⟨by have h2_ := H.out; first | exact h2_ | (simpa using h2_)⟩, HI⟩
                  | true =>
                    go_wp2_with (first | (go_at_call 50; (with_reducible refine (hunks_line.calls r.f1 true _ HLN.out).mono ?_); rintro x w1 ⟨rfl, ⟨nd, rfl⟩⟩; have HI1_ := Aside0.mk (HI.out.then (pw_below_drewN (Below.refl _ _) nd)); clear HI; have HI := HI1_; clear HI1_) | (go_at_call 51; (with_reducible refine (hunks_side_add.calls g2 c e r.f1 true c' e' w _ ?s1 ?s2 HA2.out).mono ?_); (case s1 => exact ⟨HI.out.b2, HI.out.ge2⟩); (case s2 => first | exact HI.out.below | exact pw_below_drewN HI.out.below _); rintro x w1 ⟨rfl, hi_, hb_, hk_⟩; have HI1_ := Aside0.mk (SideIn.add2 HI.out NE.out hk_ hi_ hb_); have BK1_ := Aside0.mk ((hk_.2 gb (blk_lt BK4.out) (Ne.symm N2.out) (by simp)).trans BK4.out); clear HI BK4 k0 k1 hi_ hb_ hk_; have HI := HI1_; have BK4 := BK1_; clear HI1_ BK1_; have k0 := (blk_cell BK4.out 0).trans rfl; have k1 := (blk_cell BK4.out 1).trans rfl) | (go_at_call 51; (with_reducible refine (hunks_side_add.calls g3 d f r.f1 true d' f' w _ ?s1 ?s2 HA3.out).mono ?_); (case s1 => exact ⟨HI.out.b3, HI.out.ge3⟩); (case s2 => first | exact HI.out.below | exact pw_below_drewN HI.out.below _); rintro x w1 ⟨rfl, hi_, hb_, hk_⟩; have HI1_ := Aside0.mk (SideIn.add3 HI.out NE.out hk_ hi_ hb_); have BK1_ := Aside0.mk ((hk_.2 gb (blk_lt BK4.out) (Ne.symm N3.out) (by simp)).trans BK4.out); clear HI BK4 k0 k1 hi_ hb_ hk_; have HI := HI1_; have BK4 := BK1_; clear HI1_ BK1_; have k0 := (blk_cell BK4.out 0).trans rfl; have k1 := (blk_cell BK4.out 1).trans rfl))
                    go_roundg (gk - 1)
                    case measure => have := HK.out; omega
                    case rel => exact ⟨i + 1, c', d', e', f', _, (by have hw_ : wrap64 ((i : Int) + 1) = ((i + 1 : Nat) : Int) := (by rw [Pure.w64' (by omega) (by have := HL.out; omega)]; omega); first | (rw [hw_]; done) | go_num | (simp; done)), rfl, ⟨by have := HK.out; omega⟩, ⟨by have h2_ := H.out; first | exact h2_ | (simpa using h2_)⟩, HI⟩
            · have y1 : decide (r.f0 < 1) = false := decide_eq_false (by omega)
              have y0 : decide (3 < r.f0) = false := decide_eq_false (by omega)
              have y3 : (r.f0 != 3) = true := bne_iff_ne.mpr (by omega)
              have y2 : (r.f0 != 2) = false := bne_eq_false_iff_eq.mpr (by omega)
              have y5 : (r.f0 != 1) = true := bne_iff_ne.mpr (by omega)
              obtain ⟨x, hx, h1⟩ := Option.bind_eq_some_iff.mp h1
              unfold addIf at hx
              rw [y3, if_pos rfl] at hx
              obtain ⟨b', c', e'⟩ := x
              cases b' with
              | false =>
                have HA2 := Aside0.mk hx
                clear hx
                rw [if_neg (by simp)] at h1
                simp only [Option.some.injEq, Prod.mk.injEq] at h1
                obtain ⟨⟨rfl, rfl⟩, ⟨rfl, rfl⟩, rfl⟩ := h1
                cases ch with
                | false =>
                  go_wp2_with (first | (go_at_call 50; (with_reducible refine (hunks_line.calls r.f1 true _ HLN.out).mono ?_); rintro x w1 ⟨rfl, ⟨nd, rfl⟩⟩; have HI1_ := Aside0.mk (HI.out.then (pw_below_drewN (Below.refl _ _) nd)); clear HI; have HI := HI1_; clear HI1_) | (go_at_call 51; (with_reducible refine (hunks_side_add.calls g2 c e r.f1 false c' e' w _ ?s1 ?s2 HA2.out).mono ?_); (case s1 => exact ⟨HI.out.b2, HI.out.ge2⟩); (case s2 => first | exact HI.out.below | exact pw_below_drewN HI.out.below _); rintro x w1 ⟨rfl, hi_, hb_, hk_⟩; have HI1_ := Aside0.mk (SideIn.add2 HI.out NE.out hk_ hi_ hb_); have BK1_ := Aside0.mk ((hk_.2 gb (blk_lt BK4.out) (Ne.symm N2.out) (by simp)).trans BK4.out); clear HI BK4 k0 k1 hi_ hb_ hk_; have HI := HI1_; have BK4 := BK1_; clear HI1_ BK1_; have k0 := (blk_cell BK4.out 0).trans rfl; have k1 := (blk_cell BK4.out 1).trans rfl; have a20 := (blk_cell HI.out.b2 0).trans rfl; have a21 := (blk_cell HI.out.b2 1).trans rfl; have a30 := (blk_cell HI.out.b3 0).trans rfl; have a31 := (blk_cell HI.out.b3 1).trans rfl; have f20 := blk_frozen HI.out.b2 0; have f21 := blk_frozen HI.out.b2 1; have f30 := blk_frozen HI.out.b3 0; have f31 := blk_frozen HI.out.b3 1; have ne1 := NE.out; have ne2 := Ne.symm NE.out))
                  have X_ := (HI.out.same2 NE.out).same3 NE.out
                  refine bodyPost_ret (results_cct rfl _ _ g2 g3 74 74 _ _ _ _ _ _ rfl X_.b2 Tryd.underlying74 rfl (by kernel_rfl) rfl X_.b3 Tryd.underlying74 rfl (by kernel_rfl)) rfl ⟨rfl, X_.below⟩
                | true =>
                  go_wp2_with (first | (go_at_call 50; (with_reducible refine (hunks_line.calls r.f1 true _ HLN.out).mono ?_); rintro x w1 ⟨rfl, ⟨nd, rfl⟩⟩; have HI1_ := Aside0.mk (HI.out.then (pw_below_drewN (Below.refl _ _) nd)); clear HI; have HI := HI1_; clear HI1_) | (go_at_call 51; (with_reducible refine (hunks_side_add.calls g2 c e r.f1 false c' e' w _ ?s1 ?s2 HA2.out).mono ?_); (case s1 => exact ⟨HI.out.b2, HI.out.ge2⟩); (case s2 => first | exact HI.out.below | exact pw_below_drewN HI.out.below _); rintro x w1 ⟨rfl, hi_, hb_, hk_⟩; have HI1_ := Aside0.mk (SideIn.add2 HI.out NE.out hk_ hi_ hb_); have BK1_ := Aside0.mk ((hk_.2 gb (blk_lt BK4.out) (Ne.symm N2.out) (by simp)).trans BK4.out); clear HI BK4 k0 k1 hi_ hb_ hk_; have HI := HI1_; have BK4 := BK1_; clear HI1_ BK1_; have k0 := (blk_cell BK4.out 0).trans rfl; have k1 := (blk_cell BK4.out 1).trans rfl; have a20 := (blk_cell HI.out.b2 0).trans rfl; have a21 := (blk_cell HI.out.b2 1).trans rfl; have a30 := (blk_cell HI.out.b3 0).trans rfl; have a31 := (blk_cell HI.out.b3 1).trans rfl; have f20 := blk_frozen HI.out.b2 0; have f21 := blk_frozen HI.out.b2 1; have f30 := blk_frozen HI.out.b3 0; have f31 := blk_frozen HI.out.b3 1; have ne1 := NE.out; have ne2 := Ne.symm NE.out))
                  have X_ := (HI.out.same2 NE.out).same3 NE.out
                  refine bodyPost_ret (results_cct rfl _ _ g2 g3 74 74 _ _ _ _ _ _ rfl X_.b2 Tryd.underlying74 rfl (by kernel_rfl) rfl X_.b3 Tryd.underlying74 rfl (by kernel_rfl)) rfl ⟨rfl, X_.below⟩
              | true =>
                have HA2 := Aside0.mk hx
                clear hx
                rw [if_pos rfl] at h1
                obtain ⟨y, hy, h1⟩ := Option.bind_eq_some_iff.mp h1
                unfold addIf at hy
                rw [y2, if_neg (by simp)] at hy
                obtain rfl := Option.some.inj hy
                clear hy
                rw [if_pos rfl, y5] at h1
                have H := Aside0.mk h1
                clear h1
                cases ch with
                | false =>
                  go_wp2_with (first | (go_at_call 50; (with_reducible refine (hunks_line.calls r.f1 true _ HLN.out).mono ?_); rintro x w1 ⟨rfl, ⟨nd, rfl⟩⟩; have HI1_ := Aside0.mk (HI.out.then (pw_below_drewN (Below.refl _ _) nd)); clear HI; have HI := HI1_; clear HI1_) | (go_at_call 51; (with_reducible refine (hunks_side_add.calls g2 c e r.f1 true c' e' w _ ?s1 ?s2 HA2.out).mono ?_); (case s1 => exact ⟨HI.out.b2, HI.out.ge2⟩); (case s2 => first | exact HI.out.below | exact pw_below_drewN HI.out.below _); rintro x w1 ⟨rfl, hi_, hb_, hk_⟩; have HI1_ := Aside0.mk (SideIn.add2 HI.out NE.out hk_ hi_ hb_); have BK1_ := Aside0.mk ((hk_.2 gb (blk_lt BK4.out) (Ne.symm N2.out) (by simp)).trans BK4.out); clear HI BK4 k0 k1 hi_ hb_ hk_; have HI := HI1_; have BK4 := BK1_; clear HI1_ BK1_; have k0 := (blk_cell BK4.out 0).trans rfl; have k1 := (blk_cell BK4.out 1).trans rfl))
                  go_roundg (gk - 1)
                  case measure => have := HK.out; omega
                  case rel => exact ⟨i + 1, c', d, e', f, _, (by have hw_ : wrap64 ((i : Int) + 1) = ((i + 1 : Nat) : Int) := (by rw [Pure.w64' (by omega) (by have := HL.out; omega)]; omega); first | (rw [hw_]; done) | go_num | (simp; done)), rfl, ⟨by have := HK.out; omega⟩, ⟨by have h2_ := H.out; first | exact h2_ | (simpa using h2_)⟩, HI⟩
                | true =>
                  go_wp2_with (first | (go_at_call 50; (with_reducible refine (hunks_line.calls r.f1 true _ HLN.out).mono ?_); rintro x w1 ⟨rfl, ⟨nd, rfl⟩⟩; have HI1_ := Aside0.mk (HI.out.then (pw_below_drewN (Below.refl _ _) nd)); clear HI; have HI := HI1_; clear HI1_) | (go_at_call 51; (with_reducible refine (hunks_side_add.calls g2 c e r.f1 true c' e' w _ ?s1 ?s2 HA2.out).mono ?_); (case s1 => exact ⟨HI.out.b2, HI.out.ge2⟩); (case s2 => first | exact HI.out.below | exact pw_below_drewN HI.out.below _); rintro x w1 ⟨rfl, hi_, hb_, hk_⟩; have HI1_ := Aside0.mk (SideIn.add2 HI.out NE.out hk_ hi_ hb_); have BK1_ := Aside0.mk ((hk_.2 gb (blk_lt BK4.out) (Ne.symm N2.out) (by simp)).trans BK4.out); clear HI BK4 k0 k1 hi_ hb_ hk_; have HI := HI1_; have BK4 := BK1_; clear HI1_ BK1_; have k0 := (blk_cell BK4.out 0).trans rfl; have k1 := (blk_cell BK4.out 1).trans rfl))
                  go_roundg (gk - 1)
                  case measure => have := HK.out; omega
                  case rel => exact ⟨i + 1, c', d, e', f, _, (by have hw_ : wrap64 ((i : Int) + 1) = ((i + 1 : Nat) : Int) := (by rw [Pure.w64' (by omega) (by have := HL.out; omega)]; omega); first | (rw [hw_]; done) | go_num | (simp; done)), rfl, ⟨by have := HK.out; omega⟩, ⟨by have h2_ := H.out; first | exact h2_ | (simpa using h2_)⟩, HI⟩
            · have y1 : decide (r.f0 < 1) = false := decide_eq_false (by omega)
              have y0 : decide (3 < r.f0) = false := decide_eq_false (by omega)
              have y3 : (r.f0 != 3) = false := bne_eq_false_iff_eq.mpr (by omega)
              have y2 : (r.f0 != 2) = true := bne_iff_ne.mpr (by omega)
              have y5 : (r.f0 != 1) = true := bne_iff_ne.mpr (by omega)
              obtain ⟨x, hx, h1⟩ := Option.bind_eq_some_iff.mp h1
              unfold addIf at hx
              rw [y3, if_neg (by simp)] at hx
              obtain rfl := Option.some.inj hx
              clear hx
              rw [if_pos rfl] at h1
              obtain ⟨y, hy, h1⟩ := Option.bind_eq_some_iff.mp h1
              unfold addIf at hy
              rw [y2, if_pos rfl] at hy
              obtain ⟨b', d', f'⟩ := y
              have HA3 := Aside0.mk hy
              clear hy
              cases b' with
              | false =>
                rw [if_neg (by simp)] at h1
                simp only [Option.some.injEq, Prod.mk.injEq] at h1
                obtain ⟨⟨rfl, rfl⟩, ⟨rfl, rfl⟩, rfl⟩ := h1
                cases ch with
                | false =>
                  go_wp2_with (first | (go_at_call 50; (with_reducible refine (hunks_line.calls r.f1 true _ HLN.out).mono ?_); rintro x w1 ⟨rfl, ⟨nd, rfl⟩⟩; have HI1_ := Aside0.mk (HI.out.then (pw_below_drewN (Below.refl _ _) nd)); clear HI; have HI := HI1_; clear HI1_) | (go_at_call 51; (with_reducible refine (hunks_side_add.calls g3 d f r.f1 false d' f' w _ ?s1 ?s2 HA3.out).mono ?_); (case s1 => exact ⟨HI.out.b3, HI.out.ge3⟩); (case s2 => first | exact HI.out.below | exact pw_below_drewN HI.out.below _); rintro x w1 ⟨rfl, hi_, hb_, hk_⟩; have HI1_ := Aside0.mk (SideIn.add3 HI.out NE.out hk_ hi_ hb_); have BK1_ := Aside0.mk ((hk_.2 gb (blk_lt BK4.out) (Ne.symm N3.out) (by simp)).trans BK4.out); clear HI BK4 k0 k1 hi_ hb_ hk_; have HI := HI1_; have BK4 := BK1_; clear HI1_ BK1_; have k0 := (blk_cell BK4.out 0).trans rfl; have k1 := (blk_cell BK4.out 1).trans rfl; have a20 := (blk_cell HI.out.b2 0).trans rfl; have a21 := (blk_cell HI.out.b2 1).trans rfl; have a30 := (blk_cell HI.out.b3 0).trans rfl; have a31 := (blk_cell HI.out.b3 1).trans rfl; have f20 := blk_frozen HI.out.b2 0; have f21 := blk_frozen HI.out.b2 1; have f30 := blk_frozen HI.out.b3 0; have f31 := blk_frozen HI.out.b3 1; have ne1 := NE.out; have ne2 := Ne.symm NE.out))
                  have X_ := (HI.out.same2 NE.out).same3 NE.out
                  refine bodyPost_ret (results_cct rfl _ _ g2 g3 74 74 _ _ _ _ _ _ rfl X_.b2 Tryd.underlying74 rfl (by kernel_rfl) rfl X_.b3 Tryd.underlying74 rfl (by kernel_rfl)) rfl ⟨rfl, X_.below⟩
                | true =>
                  go_wp2_with (first | (go_at_call 50; (with_reducible refine (hunks_line.calls r.f1 true _ HLN.out).mono ?_); rintro x w1 ⟨rfl, ⟨nd, rfl⟩⟩; have HI1_ := Aside0.mk (HI.out.then (pw_below_drewN (Below.refl _ _) nd)); clear HI; have HI := HI1_; clear HI1_) | (go_at_call 51; (with_reducible refine (hunks_side_add.calls g3 d f r.f1 false d' f' w _ ?s1 ?s2 HA3.out).mono ?_); (case s1 => exact ⟨HI.out.b3, HI.out.ge3⟩); (case s2 => first | exact HI.out.below | exact pw_below_drewN HI.out.below _); rintro x w1 ⟨rfl, hi_, hb_, hk_⟩; have HI1_ := Aside0.mk (SideIn.add3 HI.out NE.out hk_ hi_ hb_); have BK1_ := Aside0.mk ((hk_.2 gb (blk_lt BK4.out) (Ne.symm N3.out) (by simp)).trans BK4.out); clear HI BK4 k0 k1 hi_ hb_ hk_; have HI := HI1_; have BK4 := BK1_; clear HI1_ BK1_; have k0 := (blk_cell BK4.out 0).trans rfl; have k1 := (blk_cell BK4.out 1).trans rfl; have a20 := (blk_cell HI.out.b2 0).trans rfl; have a21 := (blk_cell HI.out.b2 1).trans rfl; have a30 := (blk_cell HI.out.b3 0).trans rfl; have a31 := (blk_cell HI.out.b3 1).trans rfl; have f20 := blk_frozen HI.out.b2 0; have f21 := blk_frozen HI.out.b2 1; have f30 := blk_frozen HI.out.b3 0; have f31 := blk_frozen HI.out.b3 1; have ne1 := NE.out; have ne2 := Ne.symm NE.out))
                  have X_ := (HI.out.same2 NE.out).same3 NE.out
                  refine bodyPost_ret (results_cct rfl _ _ g2 g3 74 74 _ _ _ _ _ _ rfl X_.b2 Tryd.underlying74 rfl (by kernel_rfl) rfl X_.b3 Tryd.underlying74 rfl (by kernel_rfl)) rfl ⟨rfl, X_.below⟩
              | true =>
                rw [if_pos rfl, y5] at h1
                have H := Aside0.mk h1
                clear h1
                cases ch with
                | false =>
                  go_wp2_with (first | (go_at_call 50; (with_reducible refine (hunks_line.calls r.f1 true _ HLN.out).mono ?_); rintro x w1 ⟨rfl, ⟨nd, rfl⟩⟩; have HI1_ := Aside0.mk (HI.out.then (pw_below_drewN (Below.refl _ _) nd)); clear HI; have HI := HI1_; clear HI1_) | (go_at_call 51; (with_reducible refine (hunks_side_add.calls g3 d f r.f1 true d' f' w _ ?s1 ?s2 HA3.out).mono ?_); (case s1 => exact ⟨HI.out.b3, HI.out.ge3⟩); (case s2 => first | exact HI.out.below | exact pw_below_drewN HI.out.below _); rintro x w1 ⟨rfl, hi_, hb_, hk_⟩; have HI1_ := Aside0.mk (SideIn.add3 HI.out NE.out hk_ hi_ hb_); have BK1_ := Aside0.mk ((hk_.2 gb (blk_lt BK4.out) (Ne.symm N3.out) (by simp)).trans BK4.out); clear HI BK4 k0 k1 hi_ hb_ hk_; have HI := HI1_; have BK4 := BK1_; clear HI1_ BK1_; have k0 := (blk_cell BK4.out 0).trans rfl; have k1 := (blk_cell BK4.out 1).trans rfl))
                  go_roundg (gk - 1)
                  case measure => have := HK.out; omega
                  case rel => exact ⟨i + 1, c, d', e, f', _, (by have hw_ : wrap64 ((i : Int) + 1) = ((i + 1 : Nat) : Int) := (by rw [Pure.w64' (by omega) (by have := HL.out; omega)]; omega); first | (rw [hw_]; done) | go_num | (simp; done)), rfl, ⟨by have := HK.out; omega⟩, ⟨by have h2_ := H.out; first | exact h2_ | (simpa using h2_)⟩, HI⟩
                | true =>
                  go_wp2_with (first | (go_at_call 50; (with_reducible refine (hunks_line.calls r.f1 true _ HLN.out).mono ?_); rintro x w1 ⟨rfl, ⟨nd, rfl⟩⟩; have HI1_ := Aside0.mk (HI.out.then (pw_below_drewN (Below.refl _ _) nd)); clear HI; have HI := HI1_; clear HI1_) | (go_at_call 51; (with_reducible refine (hunks_side_add.calls g3 d f r.f1 true d' f' w _ ?s1 ?s2 HA3.out).mono ?_); (case s1 => exact ⟨HI.out.b3, HI.out.ge3⟩); (case s2 => first | exact HI.out.below | exact pw_below_drewN HI.out.below _); rintro x w1 ⟨rfl, hi_, hb_, hk_⟩; have HI1_ := Aside0.mk (SideIn.add3 HI.out NE.out hk_ hi_ hb_); have BK1_ := Aside0.mk ((hk_.2 gb (blk_lt BK4.out) (Ne.symm N3.out) (by simp)).trans BK4.out); clear HI BK4 k0 k1 hi_ hb_ hk_; have HI := HI1_; have BK4 := BK1_; clear HI1_ BK1_; have k0 := (blk_cell BK4.out 0).trans rfl; have k1 := (blk_cell BK4.out 1).trans rfl))
                  go_roundg (gk - 1)
                  case measure => have := HK.out; omega
                  case rel => exact ⟨i + 1, c, d', e, f', _, (by have hw_ : wrap64 ((i : Int) + 1) = ((i + 1 : Nat) : Int) := (by rw [Pure.w64' (by omega) (by have := HL.out; omega)]; omega); first | (rw [hw_]; done) | go_num | (simp; done)), rfl, ⟨by have := HK.out; omega⟩, ⟨by have h2_ := H.out; first | exact h2_ | (simpa using h2_)⟩, HI⟩
    · have hd : l0_5.drop i = [] := List.drop_of_length_le (by omega)
      have h1 := H.out
      rw [hd] at h1
      simp only [sidesF, Option.some.injEq, Prod.mk.injEq] at h1
      obtain ⟨⟨rfl, rfl⟩, ⟨rfl, rfl⟩, rfl⟩ := h1
      have z1 : decide ((i : Int) < (l0_5.length : Int)) = false := decide_eq_false (by omega)
      have a20 := (blk_cell HI.out.b2 0).trans rfl
      have a21 := (blk_cell HI.out.b2 1).trans rfl
      have a30 := (blk_cell HI.out.b3 0).trans rfl
      have a31 := (blk_cell HI.out.b3 1).trans rfl
      have f20 := blk_frozen HI.out.b2 0
      have f21 := blk_frozen HI.out.b2 1
      have f30 := blk_frozen HI.out.b3 0
      have f31 := blk_frozen HI.out.b3 1
      have ne1 := NE.out
      have ne2 := Ne.symm NE.out
      go_wp2
      have X_ := (HI.out.same2 NE.out).same3 NE.out
      refine bodyPost_ret (results_cct rfl _ _ g2 g3 74 74 _ _ _ _ _ _ rfl X_.b2 Tryd.underlying74 rfl (by kernel_rfl) rfl X_.b3 Tryd.underlying74 rfl (by kernel_rfl)) rfl ⟨rfl, X_.below⟩
end Go.Proofs.YtecjoofjiockkaaDoor.Ext
