/-
  hunks.Script; walked by hand.
-/
import Derived.Test.YtecjoofjiockkaaDoorPp8
import Derived.Test.YtecjoofjiockkaaDoorPp7
import Derived.Test.YtecjoofjiockkaaDoorPp13
import Derived.Test.YtecjoofjiockkaaDoorEIs
import Derived.Test.YtecjoofjiockkaaDoorESt
import Derived.Test.YtecjoofjiockkaaDoorEPure
import Derived.OneCell
namespace Go.Proofs.YtecjoofjiockkaaDoor.Ext
open Go.RowKit Go.Proofs.YtecjoofjiockkaaDoor.Pp Go.Proofs.YtecjoofjiockkaaDoorW.PrintWords Go.Proofs.YtecjoofjiockkaaDoorW.PrintLast Go.Proofs.YtecjoofjiockkaaDoorW.PrintMore
set_option linter.unusedVariables false
set_option linter.unusedSimpArgs false
def aheadF (a n : Int) : Int := if n > 0 then wrap64 (a - 1) else a
theorem ahead_eq (a n : Int) : hunks_ahead.f a n = some (aheadF a n) := by unfold hunks_ahead.f aheadF; split <;> rfl
def scrRows : List S56 → Int → Int → List S53 → Option S53 → List S53
  | [], _, _, out, cur => out ++ cur.toList
  | r :: t, a, b, out, cur =>
    if r.f0 = 1 then scrRows t (wrap64 (a + 1)) (wrap64 (b + 1)) (out ++ cur.toList) none
    else if r.f0 = 2 then scrRows t (wrap64 (a + 1)) b out (some ⟨(cur.getD ⟨a, 0, b, 0⟩).f0, wrap64 ((cur.getD ⟨a, 0, b, 0⟩).f1 + 1), (cur.getD ⟨a, 0, b, 0⟩).f2, (cur.getD ⟨a, 0, b, 0⟩).f3⟩)
    else scrRows t a (wrap64 (b + 1)) out (some ⟨(cur.getD ⟨a, 0, b, 0⟩).f0, (cur.getD ⟨a, 0, b, 0⟩).f1, (cur.getD ⟨a, 0, b, 0⟩).f2, wrap64 ((cur.getD ⟨a, 0, b, 0⟩).f3 + 1)⟩)
def scrHunks : List S41 → List S53 → List S53
  | [], out => out
  | h :: t, out => scrHunks t (scrRows h.f5 (aheadF h.f0 h.f1) (aheadF h.f2 h.f3) out none)
def rowsAll (l : List S41) : Nat := (l.map fun h => h.f5.length).sum
def hunks_Script.f (k : Nat) (l : List S41) (n m : Int) : Option (List S53 × Option Int) :=
  if l.length ≤ 9223372036854775807 ∧ rowsAll l ≤ 1000000000 then
    (hunks_Order.f k l).bind fun e =>
      if e.isNone = true then (edits_Normal.f k (scrHunks l []) n m).bind fun z => some (z.1, if z.2 = some 1 then some 60 else z.2) else some ([], e)
  else none
abbrev ChgR (w : World) (base : Nat) (v : Value) (l : List S53) : Prop := Kd.R k53 53 w base (fun _ => True) v l
section
variable {w0 w w1 : World} {b g cap : Nat} {v v1 : Value} {out out1 : List S53} {c : S53}
theorem last_at (c : S53) (out : List S53) : (out ++ [c]).getD ((out.length : Int)).toNat z53 = c := by
  rw [Int.toNat_natCast, List.getD_eq_getElem?_getD, List.getElem?_append_right (Nat.le_refl _), Nat.sub_self]; rfl
theorem last_put (c d : S53) (out : List S53) : (out ++ [c]).set ((out.length : Int)).toNat d = out ++ [d] := by
  rw [Int.toNat_natCast, List.set_append_right _ _ (Nat.le_refl _), Nat.sub_self]; rfl
theorem chg_last (h : ChgR w b (.slice (some ⟨g, 0, none⟩) (out.length + 1) cap) (out ++ [c])) :
    w.cell? ⟨g, out.length * 4 + 1, none⟩ = some (.int .i64 c.f1) ∧ w.cell? ⟨g, out.length * 4 + 3, none⟩ = some (.int .i64 c.f3) ∧ w.frozen? ⟨g, out.length * 4 + 1, none⟩ = false ∧ w.frozen? ⟨g, out.length * 4 + 3, none⟩ = false ∧
      (∀ y : Int, ChgR (w.setCell ⟨g, out.length * 4 + 1, none⟩ (.int .i64 y)) b (.slice (some ⟨g, 0, none⟩) (out.length + 1) cap) (out ++ [⟨c.f0, y, c.f2, c.f3⟩])) ∧
      (∀ y : Int, ChgR (w.setCell ⟨g, out.length * 4 + 3, none⟩ (.int .i64 y)) b (.slice (some ⟨g, 0, none⟩) (out.length + 1) cap) (out ++ [⟨c.f0, c.f1, c.f2, y⟩])) := by
  obtain ⟨cs, hl, hM, hc, hf⟩ := Kd.R_elem h z53 (out.length : Int) (by omega) (by omega)
  rw [last_at] at hM
  obtain rfl := k53_openM hM
  have hz : k53.sz = 4 := rfl
  rw [hz] at hc hf
  simp only [Int.toNat_natCast] at hc hf
  refine ⟨hc 1 _ rfl, hc 3 _ rfl, hf 1, hf 3, fun y => ?_, fun y => ?_⟩
  · have := (Kd.R_seg h (out.length : Int) (by omega) (by omega) (seg := [.int .i64 y]) (j := 1) hl (by rw [hz, Int.toNat_natCast]; exact hc) (show 2 ≤ 4 from by decide) (x' := (⟨c.f0, y, c.f2, c.f3⟩ : S53)) (k53_mkM _ _ _ (⟨c.f0, y, c.f2, c.f3⟩ : S53)) (fun _ hk => hk)).1
    rw [last_put, hz, Int.toNat_natCast] at this
    exact this
  · have := (Kd.R_seg h (out.length : Int) (by omega) (by omega) (seg := [.int .i64 y]) (j := 3) hl (by rw [hz, Int.toNat_natCast]; exact hc) (show 4 ≤ 4 from by decide) (x' := (⟨c.f0, c.f1, c.f2, y⟩ : S53)) (k53_mkM _ _ _ (⟨c.f0, c.f1, c.f2, y⟩ : S53)) (fun _ hk => hk)).1
    rw [last_put, hz, Int.toNat_natCast] at this
    exact this
end
structure ScrIn (w0 : World) (v : Value) (out : List S53) (w : World) : Prop where
  below : Below w0.heap.size w0 w
  r : ChgR w w0.heap.size v out
section
variable {w0 w w1 : World} {v v1 : Value} {out out1 : List S53} {g : Nat} {cs : Array Value}
theorem ScrIn.then (i : ScrIn w0 v out w) (k : Below w.heap.size w w1) : ScrIn w0 v out w1 := ⟨below_step i.below k, Kd.R_below i.r k⟩
theorem ScrIn.set {t : Nat} (i : ScrIn w0 v out w) (hb : w.heap[g]? = some (.cells cs t (0, 0))) (ht : ∀ q, q ∈ 53 :: k53.E → q ≠ t) (l : w0.heap.size ≤ g) (j : Nat) (y : Value) : ScrIn w0 v out (w.setCell ⟨g, j, none⟩ y) :=
  ⟨below_set i.below l, Kd.R_set i.r hb ht j y⟩
theorem chg_shape {b : Nat} {c : S53} (h : ChgR w b v (out ++ [c])) : ∃ g cap, v = .slice (some ⟨g, 0, none⟩) (out.length + 1) cap ∧ b ≤ g := by
  obtain ⟨A, cap, rfl⟩ := Kd.R_slice h
  have hC := (Kd.R_reads' h).2.2
  obtain ⟨ad, rfl, _⟩ := hC.2.2 (by simp)
  obtain ⟨g, rfl⟩ := Kd.R_head h
  exact ⟨g, cap, by simp, Kd.R_base h g (by simp [Value.ownBlock])⟩
structure ScrH (w0 : World) (gh : Nat) (A5 : Option Addr) (c5 : Nat) (g : S41) (w : World) : Prop where
  b : w.heap[gh]? = some (.cells #[.int .i64 g.f0, .int .i64 g.f1, .int .i64 g.f2, .int .i64 g.f3, .string g.f4, .slice A5 g.f5.length c5] 41 (0, 0))
  l : w0.heap.size ≤ gh
theorem ScrH.then {gh c5 : Nat} {A5 : Option Addr} {g : S41} (i : ScrH w0 gh A5 c5 g w) (k : Below w.heap.size w w1) : ScrH w0 gh A5 c5 g w1 := ⟨blk_below i.b k, i.l⟩
theorem ScrH.far {gh c5 : Nat} {A5 : Option Addr} {g : S41} (i : ScrH w0 gh A5 c5 g w) {q t : Nat} (hb : w.heap[q]? = some (.cells cs t (0, 0))) (ht : 41 ≠ t) (j : Nat) (y : Value) : ScrH w0 gh A5 c5 g (w.setCell ⟨q, j, none⟩ y) := ⟨blk_far i.b (blk_ne i.b hb ht) y, i.l⟩
theorem ScrH.farR {gh c5 g9 n cap b : Nat} {A5 : Option Addr} {g : S41} (i : ScrH w0 gh A5 c5 g w) (h : ChgR w b (.slice (some ⟨g9, 0, none⟩) n cap) out) (j : Nat) (y : Value) : ScrH w0 gh A5 c5 g (w.setCell ⟨g9, j, none⟩ y) := by
  obtain ⟨cells, hb⟩ := Kd.R_typed h g9 (by simp [Value.ownBlock])
  exact i.far hb (by decide) j y
theorem ScrH.grown {gh c5 : Nat} {A5 : Option Addr} {g : S41} (i : ScrH w0 gh A5 c5 g w) (h : ScrIn w0 v out w) (hg : w.grownBy w1 v.ownBlock) : ScrH w0 gh A5 c5 g w1 := ⟨blk_grown i.b hg (Kd.R_ne h.r i.b (by decide)), i.l⟩
theorem ScrH.cells {gh c5 : Nat} {A5 : Option Addr} {g : S41} (i : ScrH w0 gh A5 c5 g w) : w.cell? ⟨gh, 0, none⟩ = some (.int .i64 g.f0) ∧ w.cell? ⟨gh, 1, none⟩ = some (.int .i64 g.f1) ∧ w.cell? ⟨gh, 2, none⟩ = some (.int .i64 g.f2) ∧ w.cell? ⟨gh, 3, none⟩ = some (.int .i64 g.f3) ∧ w.cell? ⟨gh, 5, none⟩ = some (.slice A5 g.f5.length c5) :=
  ⟨(blk_cell i.b 0).trans rfl, (blk_cell i.b 1).trans rfl, (blk_cell i.b 2).trans rfl, (blk_cell i.b 3).trans rfl, (blk_cell i.b 5).trans rfl⟩
end
theorem scrRows_le : ∀ (l : List S56) (a b : Int) (out : List S53) (cur : Option S53), (scrRows l a b out cur).length ≤ out.length + cur.toList.length + l.length
  | [], a, b, out, cur => by unfold scrRows; rw [List.length_append]; simp
  | r :: t, a, b, out, cur => by
    unfold scrRows
    split
    · have := scrRows_le t (wrap64 (a + 1)) (wrap64 (b + 1)) (out ++ cur.toList) none
      rw [List.length_append] at this; simp only [Option.toList_none, List.length_nil, List.length_cons] at this ⊢; omega
    · split
      · have := scrRows_le t (wrap64 (a + 1)) b out (some ⟨(cur.getD ⟨a, 0, b, 0⟩).f0, wrap64 ((cur.getD ⟨a, 0, b, 0⟩).f1 + 1), (cur.getD ⟨a, 0, b, 0⟩).f2, (cur.getD ⟨a, 0, b, 0⟩).f3⟩)
        simp only [Option.toList_some, List.length_singleton, List.length_cons, List.length_nil] at this ⊢; omega
      · have := scrRows_le t a (wrap64 (b + 1)) out (some ⟨(cur.getD ⟨a, 0, b, 0⟩).f0, (cur.getD ⟨a, 0, b, 0⟩).f1, (cur.getD ⟨a, 0, b, 0⟩).f2, wrap64 ((cur.getD ⟨a, 0, b, 0⟩).f3 + 1)⟩)
        simp only [Option.toList_some, List.length_singleton, List.length_cons, List.length_nil] at this ⊢; omega
theorem scrdrop {α : Type} (l : List α) (d : α) (i : Nat) (h : i < l.length) : l.drop i = l.getD i d :: l.drop (i + 1) := by
  rw [List.getD_eq_getElem?_getD, List.getElem?_eq_getElem h]
  exact List.drop_eq_getElem_cons h
theorem rowsAll_cons (h : S41) (t : List S41) : rowsAll (h :: t) = h.f5.length + rowsAll t := by unfold rowsAll; simp
set_option maxHeartbeats 16000000 in
set_option maxRecDepth 100000 in
theorem hunks_Script.calls (k : Nat) (A0 : Option Addr) (c0 : Nat) (l0 : List S41) (n m : Int) (r1 : List S53) (r2 : Option Int) (w : World) (hr0 : Kd.C k41 w A0 l0.length l0) (hc0 : l0.length ≤ c0) (h : hunks_Script.f k l0 n m = some (r1, r2)) :
    Calls Tryd.prog 15 #[.slice A0 l0.length c0, .int .i64 n, .int .i64 m] w fun e w' => ∃ v0_ : Value, e = .returned (.tuple #[v0_, errW r2]) ∧ Kd.R k53 53 w' w.heap.size (fun _ => True) v0_ r1 ∧ Below w.heap.size w w' := by
  have hu29 := Tryd.underlying41
  unfold hunks_Script.f at h
  split at h
  case isFalse => cases h
  rename_i hlen
  obtain ⟨e, hO, h⟩ := Option.bind_eq_some_iff.mp h
  have HO := Aside0.mk hO
  have HR := Aside0.mk hr0
  have HC := Aside0.mk hc0
  have HLEN := Aside0.mk hlen
  have HB := Aside0.mk (Below.refl w.heap.size w)
  clear hO hr0 hc0 hlen
  cases e with
  | some x =>
    rw [if_neg (by simp)] at h
    simp only [Option.some.injEq, Prod.mk.injEq] at h
    obtain ⟨rfl, rfl⟩ := h
    go_enter Tryd.func15, Tryd.ntmps15
    go_wp2_with (go_at_call 18; (with_reducible refine (hunks_Order.calls k _ _ l0 (some x) _ HR.out HC.out HO.out).mono ?_); rintro e w2 ⟨rfl, hb⟩; have HB2 := Aside0.mk (below_step HB.out hb); clear hb HB; simp only [errW_some])
    go_ret2
    exact ⟨_, by first | rfl | simp [errW_some], Kd.R_nil _ _ _ _ _, HB2.out⟩
  | none =>
    rw [if_pos (show (none : Option Int).isNone = true from rfl)] at h
    obtain ⟨⟨z1, z2⟩, hN, h⟩ := Option.bind_eq_some_iff.mp h
    simp only [Option.some.injEq, Prod.mk.injEq] at h
    obtain ⟨rfl, hz2⟩ := h
    have HZ2 := Aside0.mk hz2
    have HN := Aside0.mk hN
    clear hz2 hN
    obtain ⟨OUT, hOUT⟩ : ∃ O, O = scrHunks l0 [] := ⟨_, rfl⟩
    rw [← hOUT] at HN
    have HOUT := Aside0.mk hOUT.symm
    clear hOUT
    go_enter Tryd.func15, Tryd.ntmps15
    go_upto_region 5 with (go_at_call 18; (with_reducible refine (hunks_Order.calls k _ _ l0 none _ HR.out HC.out HO.out).mono ?_); rintro e w2 ⟨rfl, hb⟩; have HB2 := Aside0.mk (below_step HB.out hb); clear hb HB; simp only [errW_none])
    go_wp2
    go_loopg [9, 27] (l0.length + 1) (fun kq v9 v27 w' => ∃ (i : Nat) (out : List S53), v27 = .int .i64 (i : Int) ∧ Aside0 (i + kq = l0.length + 1 ∧ out.length + rowsAll (l0.drop i) ≤ 1000000000) ∧ Aside0 (scrHunks (l0.drop i) out = OUT) ∧ Aside0 (ScrIn w v9 out w'))
    case atStart => exact ⟨0, [], rfl, ⟨by omega, by rw [List.drop_zero]; have := HLEN.out.2; simpa using this⟩, HOUT, ⟨HB2.out, Kd.R_nil _ _ _ _ _⟩⟩
    case round =>
      clear HB2 HOUT
      obtain ⟨i, out, rfl, HK, H, HI⟩ := hrel
      by_cases hi : i < l0.length
      · have p1 : 0 ≤ (i : Int) := by omega
        have q1 : (i : Int) < (l0.length : Int) := by omega
        have H1 := H.out
        have HK1 := HK.out
        rw [scrdrop l0 z41 i hi] at H1 HK1
        rw [rowsAll_cons] at HK1
        simp only [scrHunks] at H1
        have hrd : l0.getD i z41 = rd_T41 l0 (i : Int) := rfl
        rw [hrd] at H1 HK1
        obtain ⟨ad, A5, c5, e1, hx0, hx1, hx2, hx3, hx4, hx5, hc5, hr5⟩ := at_T41 HR.out (i : Int) p1 q1
        replace hx0 := pw_cell_below HI.out.below hx0
        replace hx1 := pw_cell_below HI.out.below hx1
        replace hx2 := pw_cell_below HI.out.below hx2
        replace hx3 := pw_cell_below HI.out.below hx3
        replace hx4 := pw_cell_below HI.out.below hx4
        replace hx5 := pw_cell_below HI.out.below hx5
        cases e1
        simp only [Int.toNat_natCast] at hx0 hx1 hx2 hx3 hx4 hx5
        have z1_ : decide ((i : Int) < (l0.length : Int)) = true := decide_eq_true q1
        generalize rd_T41 l0 (i : Int) = g at H1 HK1 hx0 hx1 hx2 hx3 hx4 hx5 hc5 hr5
        clear hrd H HK
        have H2 := Aside0.mk H1
        have HK := Aside0.mk HK1
        have HC5 := Aside0.mk hc5
        have HR5 := Aside0.mk hr5
        have HW : Aside0 (wrap64 ((i : Int) + 1) = ((i + 1 : Nat) : Int)) := ⟨by rw [Pure.w64' (by omega) (by have := HLEN.out.1; omega)]; omega⟩
        clear H1 HK1 hc5 hr5
        go_upto_region 8 with (((with_reducible refine gate_dst (N := 11) rfl ?_); refine box_event ?hg (N := 11) ?hd (cs := #[.int .i64 0, .int .i64 0, .int .i64 0, .int .i64 0, .string ⟨#[]⟩, .slice none 0 0]) (t := 41) ?hr ?_; (case hd => rfl); (case hg => rfl); (case hr => first | (go_simp; done) | (go_simp; rfl)); intro gb hg wx hbox hb; have NG := Aside0.mk (show w.heap.size ≤ gb by have := HI.out.below.size; omega); have HX := Aside0.mk (HI.out.then hb); have BX := Aside0.mk hbox; clear HI; clear hb hg; have cz0 := (blk_cell hbox 0).trans rfl; have fz0 := blk_frozen hbox 0; have cz1 := (blk_cell hbox 1).trans rfl; have fz1 := blk_frozen hbox 1; have cz2 := (blk_cell hbox 2).trans rfl; have fz2 := blk_frozen hbox 2; have cz3 := (blk_cell hbox 3).trans rfl; have fz3 := blk_frozen hbox 3; have cz4 := (blk_cell hbox 4).trans rfl; have fz4 := blk_frozen hbox 4; have cz5 := (blk_cell hbox 5).trans rfl; have fz5 := blk_frozen hbox 5; clear hbox))
        have HI : Aside0 (ScrIn w u9 out ((((((wx.setCell ⟨gb, 0, none⟩ (.int .i64 g.f0)).setCell ⟨gb, 1, none⟩ (.int .i64 g.f1)).setCell ⟨gb, 2, none⟩ (.int .i64 g.f2)).setCell ⟨gb, 3, none⟩ (.int .i64 g.f3)).setCell ⟨gb, 4, none⟩ (.string g.f4)).setCell ⟨gb, 5, none⟩ (.slice A5 g.f5.length c5))) := ⟨((((((HX.out.set BX.out (by decide) NG.out 0 (.int .i64 g.f0)).set (blk_set BX.out 0 (.int .i64 g.f0)) (by decide) NG.out 1 (.int .i64 g.f1)).set (blk_set (blk_set BX.out 0 (.int .i64 g.f0)) 1 (.int .i64 g.f1)) (by decide) NG.out 2 (.int .i64 g.f2)).set (blk_set (blk_set (blk_set BX.out 0 (.int .i64 g.f0)) 1 (.int .i64 g.f1)) 2 (.int .i64 g.f2)) (by decide) NG.out 3 (.int .i64 g.f3)).set (blk_set (blk_set (blk_set (blk_set BX.out 0 (.int .i64 g.f0)) 1 (.int .i64 g.f1)) 2 (.int .i64 g.f2)) 3 (.int .i64 g.f3)) (by decide) NG.out 4 (.string g.f4)).set (blk_set (blk_set (blk_set (blk_set (blk_set BX.out 0 (.int .i64 g.f0)) 1 (.int .i64 g.f1)) 2 (.int .i64 g.f2)) 3 (.int .i64 g.f3)) 4 (.string g.f4)) (by decide) NG.out 5 (.slice A5 g.f5.length c5))⟩
        have HH : Aside0 (ScrH w gb A5 c5 g ((((((wx.setCell ⟨gb, 0, none⟩ (.int .i64 g.f0)).setCell ⟨gb, 1, none⟩ (.int .i64 g.f1)).setCell ⟨gb, 2, none⟩ (.int .i64 g.f2)).setCell ⟨gb, 3, none⟩ (.int .i64 g.f3)).setCell ⟨gb, 4, none⟩ (.string g.f4)).setCell ⟨gb, 5, none⟩ (.slice A5 g.f5.length c5))) := ⟨⟨((blk_set (blk_set (blk_set (blk_set (blk_set (blk_set BX.out 0 (.int .i64 g.f0)) 1 (.int .i64 g.f1)) 2 (.int .i64 g.f2)) 3 (.int .i64 g.f3)) 4 (.string g.f4)) 5 (.slice A5 g.f5.length c5))).trans rfl, NG.out⟩⟩
        generalize ((((((wx.setCell ⟨gb, 0, none⟩ (.int .i64 g.f0)).setCell ⟨gb, 1, none⟩ (.int .i64 g.f1)).setCell ⟨gb, 2, none⟩ (.int .i64 g.f2)).setCell ⟨gb, 3, none⟩ (.int .i64 g.f3)).setCell ⟨gb, 4, none⟩ (.string g.f4)).setCell ⟨gb, 5, none⟩ (.slice A5 g.f5.length c5)) = W1 at HI HH ⊢
        clear cz0 fz0 cz1 fz1 cz2 fz2 cz3 fz3 cz4 fz4 cz5 fz5 hx0 hx1 hx2 hx3 hx4 hx5 HX BX NG
        obtain ⟨k0, k1_, k2, k3, k5⟩ := HH.out.cells
        refine start_ (n := 12) (ds := []) (S := fun w' => w'.cell? ⟨gb, 0, none⟩ = some (.int .i64 g.f0) ∧ w'.cell? ⟨gb, 1, none⟩ = some (.int .i64 g.f1) ∧ w'.cell? ⟨gb, 2, none⟩ = some (.int .i64 g.f2) ∧ w'.cell? ⟨gb, 3, none⟩ = some (.int .i64 g.f3)) #[false, false, false, false, false, false, false, false, false, false, false, false] (by kernel_rfl) rfl rfl ⟨k0, k1_, k2, k3⟩ (fun hHeld => ?_)
        clear k0 k1_ k2 k3 k5
        have HI2 := Aside0.mk (HI.out.then (below_drew (Below.refl _ _)))
        have HH2 := Aside0.mk (HH.out.then (below_drew (Below.refl _ _)))
        clear HI HH
        generalize W1.drew = wd at HI2 HH2 hHeld ⊢
        refine pureK 0 ?_
        refine pureK 2 ?_
        refine pureK 5 ?_
        refine pureK 7 ?_
        refine takeK 1 hHeld ?_
        refine takeK 3 hHeld ?_
        refine takeK 6 hHeld ?_
        refine takeK 8 hHeld ?_
        refine one_ (i := 4) (N := some 35) #[true, true, true, true, true, true, true, true, true, false, false, false] rfl rfl (by kernel_rfl) (by decide) (fun K hK => ?_)
        refine goes_ Tryd.func30 (by kernel_rfl) rfl #[.int .i64 g.f0, .int .i64 g.f1] (by rfl) rfl rfl argsOk ?_
        with_reducible refine (hunks_ahead.calls g.f0 g.f1 _ _ (ahead_eq g.f0 g.f1)).mono ?_
        rintro e w_ ⟨rfl, hd⟩
        refine ⟨_, rfl, ?_⟩
        have HI3 := Aside0.mk (HI2.out.then hd.below)
        have HH3 := Aside0.mk (HH2.out.then hd.below)
        clear hd HI2 HH2
        refine hK.out _ _ ⟨HH3.out.cells.1, HH3.out.cells.2.1, HH3.out.cells.2.2.1, HH3.out.cells.2.2.2.1⟩ (fun hHeld => ?_)
        clear hK K
        refine putK ?_
        refine one_ (i := 9) (N := some 40) #[true, true, true, true, true, true, true, true, true, true, false, false] rfl rfl (by kernel_rfl) (by decide) (fun K hK => ?_)
        refine goes_ Tryd.func30 (by kernel_rfl) rfl #[.int .i64 g.f2, .int .i64 g.f3] (by rfl) rfl rfl argsOk ?_
        with_reducible refine (hunks_ahead.calls g.f2 g.f3 _ _ (ahead_eq g.f2 g.f3)).mono ?_
        rintro e w_ ⟨rfl, hd⟩
        refine ⟨_, rfl, ?_⟩
        have HI4 := Aside0.mk (HI3.out.then hd.below)
        have HH4 := Aside0.mk (HH3.out.then hd.below)
        clear hd HI3 HH3
        refine hK.out _ _ ⟨HH4.out.cells.1, HH4.out.cells.2.1, HH4.out.cells.2.2.1, HH4.out.cells.2.2.2.1⟩ (fun hHeld => ?_)
        clear hK K
        refine putK ?_
        refine pureK 10 ?_
        refine pureK 11 ?_
        refine done_ (by kernel_rfl) ?_
        clear hHeld
        rename_i wq
        have HI := HI4
        have HH := HH4
        clear HI4 HH4
        go_upto_region 10 with (fail)
        have k5 := HH.out.cells.2.2.2.2
        obtain ⟨OUT', hO'⟩ : ∃ O, O = scrRows g.f5 (aheadF g.f0 g.f1) (aheadF g.f2 g.f3) out none := ⟨_, rfl⟩
        have HO' := Aside0.mk hO'.symm
        rw [← hO'] at H2
        clear hO'
        obtain ⟨ko, HKO⟩ : ∃ ko, Aside0 (i + ko = l0.length + 1) := ⟨gk, ⟨HK.out.1⟩⟩
        go_wp2
        go_loopg [9, 12, 13, 14, 44] (g.f5.length + 1) (fun kq v9 v12 v13 v14 v44 w' => ∃ (j : Nat) (x12 x13 : Int) (out' : List S53) (cur : Option S53), v12 = .int .i64 x12 ∧ v13 = .int .i64 x13 ∧ v14 = .bool cur.isSome ∧ v44 = .int .i64 (j : Int) ∧ Aside0 (j + kq = g.f5.length + 1 ∧ j ≤ g.f5.length ∧ out'.length + cur.toList.length + (g.f5.length - j) ≤ 1000000000) ∧ Aside0 (scrRows (g.f5.drop j) x12 x13 out' cur = OUT') ∧ Aside0 (ScrIn w v9 (out' ++ cur.toList) w') ∧ Aside0 (ScrH w gb A5 c5 g w'))
        case atStart => exact ⟨0, _, _, out, none, rfl, rfl, rfl, rfl, ⟨by omega, by omega, by have := HK.out.2; simp only [Option.toList_none, List.length_nil]; omega⟩, HO', ⟨by rw [Option.toList_none, List.append_nil]; exact HI.out⟩, HH⟩
        case round =>
          have HO2 := HO'
          clear HI HH HO' k5
          obtain ⟨j, x12, x13, out', cur, rfl, rfl, rfl, rfl, HJ, HS, HI, HH⟩ := hrel
          by_cases hj : j < g.f5.length
          · have p2 : 0 ≤ (j : Int) := by omega
            have q2 : (j : Int) < (g.f5.length : Int) := by omega
            have H3 := HS.out
            rw [scrdrop g.f5 z56 j hj] at H3
            simp only [scrRows] at H3
            have hrd : g.f5.getD j z56 = rd_T56 g.f5 (j : Int) := rfl
            rw [hrd] at H3
            obtain ⟨ad2, e2, hy0, hy1⟩ := at_T56 HR5.out (j : Int) p2 q2
            replace hy0 := pw_cell_below HI.out.below hy0
            replace hy1 := pw_cell_below HI.out.below hy1
            subst e2
            simp only [Int.toNat_natCast] at hy0 hy1
            have z2_ : decide ((j : Int) < (g.f5.length : Int)) = true := decide_eq_true q2
            generalize rd_T56 g.f5 (j : Int) = r at H3 hy0 hy1
            clear hrd HS
            have HS := Aside0.mk H3
            have HW2 : Aside0 (wrap64 ((j : Int) + 1) = ((j + 1 : Nat) : Int)) := ⟨by rw [Pure.w64' (by omega) (by have := HK.out.2; omega)]; omega⟩
            clear H3
            go_upto_region 13 with (((with_reducible refine gate_dst (N := 16) rfl ?_); refine box_event ?hg (N := 16) ?hd (cs := #[.int .i64 0, .string ⟨#[]⟩]) (t := 56) ?hr ?_; (case hd => rfl); (case hg => rfl); (case hr => first | (go_simp; done) | (go_simp; rfl)); intro gr hg wx hbox hb; have NG := Aside0.mk (show w.heap.size ≤ gr by have := HI.out.below.size; omega); have HX := Aside0.mk (HI.out.then hb); have HHX := Aside0.mk (HH.out.then hb); have BX := Aside0.mk hbox; clear HI HH; clear hb hg; have cz0 := (blk_cell hbox 0).trans rfl; have fz0 := blk_frozen hbox 0; have cz1 := (blk_cell hbox 1).trans rfl; have fz1 := blk_frozen hbox 1; clear hbox))
            have HI : Aside0 (ScrIn w u9 (out' ++ cur.toList) ((wx.setCell ⟨gr, 0, none⟩ (.int .i64 r.f0)).setCell ⟨gr, 1, none⟩ (.string r.f1))) := ⟨((HX.out.set BX.out (by decide) NG.out 0 (.int .i64 r.f0)).set (blk_set BX.out 0 (.int .i64 r.f0)) (by decide) NG.out 1 (.string r.f1))⟩
            have HH : Aside0 (ScrH w gb _ c5 g ((wx.setCell ⟨gr, 0, none⟩ (.int .i64 r.f0)).setCell ⟨gr, 1, none⟩ (.string r.f1))) := ⟨(HHX.out.far BX.out (by decide) 0 (.int .i64 r.f0)).far (blk_set BX.out 0 (.int .i64 r.f0)) (by decide) 1 (.string r.f1)⟩
            have BR : Aside0 (((wx.setCell ⟨gr, 0, none⟩ (.int .i64 r.f0)).setCell ⟨gr, 1, none⟩ (.string r.f1)).heap[gr]? = some (.cells #[.int .i64 r.f0, .string r.f1] 56 (0, 0))) := ⟨((blk_set (blk_set BX.out 0 (.int .i64 r.f0)) 1 (.string r.f1))).trans rfl⟩
            generalize ((wx.setCell ⟨gr, 0, none⟩ (.int .i64 r.f0)).setCell ⟨gr, 1, none⟩ (.string r.f1)) = W2 at HI HH BR ⊢
            clear cz0 fz0 cz1 fz1 hy0 hy1 HX HHX BX NG
            have r0 : W2.cell? ⟨gr, 0, none⟩ = some (.int .i64 r.f0) := (blk_cell BR.out 0).trans rfl
            have H3 := HS.out
            clear HS
            by_cases hk1 : r.f0 = 1
            · rw [if_pos hk1] at H3
              have HS := Aside0.mk H3
              have kb : (r.f0 == 1) = true := beq_iff_eq.mpr hk1
              clear H3 hk1
              go_wp2
              go_roundg (gk - 1)
              case measure => have := HJ.out; omega
              case rel => exact ⟨j + 1, _, _, out' ++ cur.toList, none, rfl, rfl, rfl, (by first | (rw [HW2.out]; done) | go_num | (simp; done)), ⟨by have := HJ.out; simp only [Option.toList_none, List.length_nil, List.length_append]; exact ⟨by omega, by omega, by omega⟩⟩, HS, ⟨by rw [Option.toList_none, List.append_nil]; exact HI.out⟩, ⟨HH.out⟩⟩
            · rw [if_neg hk1] at H3
              have kb : (r.f0 == 1) = false := beq_eq_false_iff_ne.mpr hk1
              clear hk1
              cases cur with
              | none =>
                have HS := Aside0.mk H3
                have HJ2 := Aside0.mk (show j + gk = g.f5.length + 1 ∧ j + 1 ≤ g.f5.length ∧ out'.length + 1 + (g.f5.length - (j + 1)) ≤ 1000000000 by have := HJ.out; simp only [Option.toList_none, List.length_nil] at this; omega)
                have HI1 : Aside0 (ScrIn w u9 out' W2) := ⟨by have := HI.out; rw [Option.toList_none, List.append_nil] at this; exact this⟩
                clear H3 HI HJ
                obtain ⟨A9, m9, c9, rfl⟩ : ∃ A m k, u9 = .slice A m k := by
                  obtain ⟨A, k, e⟩ := Kd.R_slice HI1.out.r
                  exact ⟨A, _, k, e⟩
                go_upto_region 20 with ((with_reducible refine gate_builtin (b := .append) (xs := #[.tmp 57, .tmp 61]) rfl ?_); at_builtin; refine Kd.R_append k53 (w0 := w) w.heap.size rfl (.tmp 57) (.tmp 61) 22 53 (.agg #[(.int .i64 0), (.int .i64 0), (.int .i64 0), (.int .i64 0)]) 32 rfl Tryd.underlying22 info53 rfl (by decide) (by omega) (.slice A9 m9 c9) out' (⟨x12, 0, x13, 0⟩ : S53) [.int .i64 x12, .int .i64 0, .int .i64 x13, .int .i64 0] (fun _ => True) (fun _ => False) rfl rfl ?aP (fun _ hk => hk.elim) (fun _ _ => trivial) ?aO ?aB ?aS ?aL ?_; (case aP => exact k53_mkM _ _ _ (⟨x12, 0, x13, 0⟩ : S53)); (case aO => exact HI1.out.r); (case aB => exact HI1.out.below); (case aS => exact HI1.out.below.size); (case aL => have := HJ2.out; omega); intro v1 w1 ho hb hg hat; obtain ⟨g9, cap9, e9, hg9⟩ := chg_shape ho; subst e9; have HI2 := Aside0.mk (show ScrIn w _ (out' ++ [⟨x12, 0, x13, 0⟩]) w1 from ⟨hb, ho⟩); have HH2 := Aside0.mk (HH.out.grown HI1.out hg); have BR2 := Aside0.mk (blk_grown BR.out hg (Kd.R_ne HI1.out.r BR.out (by decide))); clear ho hb hg hat HI1 HH BR r0)
                have HI := HI2
                have HH := HH2
                have BR := BR2
                clear HI2 HH2 BR2
                have HG9 := Aside0.mk hg9
                clear hg9
                obtain ⟨c, hc⟩ : ∃ c : S53, c = ⟨x12, 0, x13, 0⟩ := ⟨_, rfl⟩
                have HS1 : Aside0 ((if r.f0 = 2 then scrRows (g.f5.drop (j + 1)) (wrap64 (x12 + 1)) x13 out' (some ⟨c.f0, wrap64 (c.f1 + 1), c.f2, c.f3⟩) else scrRows (g.f5.drop (j + 1)) x12 (wrap64 (x13 + 1)) out' (some ⟨c.f0, c.f1, c.f2, wrap64 (c.f3 + 1)⟩)) = OUT') := ⟨by rw [hc]; exact HS.out⟩
                rw [← hc] at HI
                clear hc HS
                obtain ⟨o9, ho9⟩ : ∃ o, o = out'.length := ⟨_, rfl⟩
                obtain ⟨m9, hm9⟩ : ∃ m, m = out'.length + 1 := ⟨_, rfl⟩
                have HL := Aside0.mk (chg_last HI.out.r)
                rw [← hm9] at HI HL ⊢
                rw [← ho9] at HL
                have hsub : wrap64 ((m9 : Int) - 1) = (o9 : Int) := by rw [Pure.w64' (by omega) (by have := HJ2.out; omega)]; omega
                have p3 : 0 ≤ (o9 : Int) := by omega
                have q3 : (o9 : Int) < (m9 : Int) := by omega
                have HM9 := Aside0.mk (show m9 = out'.length + 1 from hm9)
                clear ho9 hm9
                obtain ⟨l1, l3, f1, f3, u1, u3⟩ := HL.out
                have U1 := Aside0.mk u1
                have U3 := Aside0.mk u3
                clear HL u1 u3
                have r0 := (blk_cell BR.out 0).trans rfl
                have H3 := HS1.out
                clear HS1
                by_cases hk2 : r.f0 = 2
                · rw [if_pos hk2] at H3
                  have HS := Aside0.mk H3
                  have kb2 : (r.f0 == 2) = true := beq_iff_eq.mpr hk2
                  clear H3 hk2
                  go_wp2
                  go_roundg (gk - 1)
                  case measure => have := HJ2.out; omega
                  case rel => exact ⟨j + 1, _, _, out', some ⟨c.f0, wrap64 (c.f1 + 1), c.f2, c.f3⟩, rfl, rfl, rfl, (by first | (rw [HW2.out]; done) | go_num | (simp; done)), ⟨by have := HJ2.out; simp only [Option.toList_some, List.length_singleton]; exact ⟨by omega, by omega, by omega⟩⟩, HS, ⟨⟨below_set HI.out.below HG9.out, by have := U1.out (wrap64 (c.f1 + 1)); exact this⟩⟩, ⟨HH.out.farR HI.out.r _ _⟩⟩
                · rw [if_neg hk2] at H3
                  have HS := Aside0.mk H3
                  have kb2 : (r.f0 == 2) = false := beq_eq_false_iff_ne.mpr hk2
                  clear H3 hk2
                  go_wp2
                  go_roundg (gk - 1)
                  case measure => have := HJ2.out; omega
                  case rel => exact ⟨j + 1, _, _, out', some ⟨c.f0, c.f1, c.f2, wrap64 (c.f3 + 1)⟩, rfl, rfl, rfl, (by first | (rw [HW2.out]; done) | go_num | (simp; done)), ⟨by have := HJ2.out; simp only [Option.toList_some, List.length_singleton]; exact ⟨by omega, by omega, by omega⟩⟩, HS, ⟨⟨below_set HI.out.below HG9.out, by have := U3.out (wrap64 (c.f3 + 1)); exact this⟩⟩, ⟨HH.out.farR HI.out.r _ _⟩⟩
              | some c =>
                have HS1 : Aside0 ((if r.f0 = 2 then scrRows (g.f5.drop (j + 1)) (wrap64 (x12 + 1)) x13 out' (some ⟨c.f0, wrap64 (c.f1 + 1), c.f2, c.f3⟩) else scrRows (g.f5.drop (j + 1)) x12 (wrap64 (x13 + 1)) out' (some ⟨c.f0, c.f1, c.f2, wrap64 (c.f3 + 1)⟩)) = OUT') := ⟨H3⟩
                have HJ2 := Aside0.mk (show j + gk = g.f5.length + 1 ∧ j + 1 ≤ g.f5.length ∧ out'.length + 1 + (g.f5.length - (j + 1)) ≤ 1000000000 by have := HJ.out; simp only [Option.toList_some, List.length_singleton] at this; omega)
                clear H3 HJ
                obtain ⟨g9, cap9, e9, hg9⟩ := chg_shape HI.out.r
                subst e9
                have HG9 := Aside0.mk hg9
                clear hg9
                go_upto_region 20 with (fail)
                clear r0
                obtain ⟨o9, ho9⟩ : ∃ o, o = out'.length := ⟨_, rfl⟩
                obtain ⟨m9, hm9⟩ : ∃ m, m = out'.length + 1 := ⟨_, rfl⟩
                have HL := Aside0.mk (chg_last HI.out.r)
                rw [← hm9] at HI HL ⊢
                rw [← ho9] at HL
                have hsub : wrap64 ((m9 : Int) - 1) = (o9 : Int) := by rw [Pure.w64' (by omega) (by have := HJ2.out; omega)]; omega
                have p3 : 0 ≤ (o9 : Int) := by omega
                have q3 : (o9 : Int) < (m9 : Int) := by omega
                have HM9 := Aside0.mk (show m9 = out'.length + 1 from hm9)
                clear ho9 hm9
                obtain ⟨l1, l3, f1, f3, u1, u3⟩ := HL.out
                have U1 := Aside0.mk u1
                have U3 := Aside0.mk u3
                clear HL u1 u3
                have r0 := (blk_cell BR.out 0).trans rfl
                have H3 := HS1.out
                clear HS1
                by_cases hk2 : r.f0 = 2
                · rw [if_pos hk2] at H3
                  have HS := Aside0.mk H3
                  have kb2 : (r.f0 == 2) = true := beq_iff_eq.mpr hk2
                  clear H3 hk2
                  go_wp2
                  go_roundg (gk - 1)
                  case measure => have := HJ2.out; omega
                  case rel => exact ⟨j + 1, _, _, out', some ⟨c.f0, wrap64 (c.f1 + 1), c.f2, c.f3⟩, rfl, rfl, rfl, (by first | (rw [HW2.out]; done) | go_num | (simp; done)), ⟨by have := HJ2.out; simp only [Option.toList_some, List.length_singleton]; exact ⟨by omega, by omega, by omega⟩⟩, HS, ⟨⟨below_set HI.out.below HG9.out, by have := U1.out (wrap64 (c.f1 + 1)); exact this⟩⟩, ⟨HH.out.farR HI.out.r _ _⟩⟩
                · rw [if_neg hk2] at H3
                  have HS := Aside0.mk H3
                  have kb2 : (r.f0 == 2) = false := beq_eq_false_iff_ne.mpr hk2
                  clear H3 hk2
                  go_wp2
                  go_roundg (gk - 1)
                  case measure => have := HJ2.out; omega
                  case rel => exact ⟨j + 1, _, _, out', some ⟨c.f0, c.f1, c.f2, wrap64 (c.f3 + 1)⟩, rfl, rfl, rfl, (by first | (rw [HW2.out]; done) | go_num | (simp; done)), ⟨by have := HJ2.out; simp only [Option.toList_some, List.length_singleton]; exact ⟨by omega, by omega, by omega⟩⟩, HS, ⟨⟨below_set HI.out.below HG9.out, by have := U3.out (wrap64 (c.f3 + 1)); exact this⟩⟩, ⟨HH.out.farR HI.out.r _ _⟩⟩
          · have z2_ : decide ((j : Int) < (g.f5.length : Int)) = false := decide_eq_false (by omega)
            have z3_ : decide (j < g.f5.length) = false := decide_eq_false hj
            have H3 := HS.out
            rw [List.drop_of_length_le (by omega)] at H3
            simp only [scrRows] at H3
            have HE := Aside0.mk H3
            have HB3 : Aside0 (OUT'.length + rowsAll (l0.drop (i + 1)) ≤ 1000000000) := ⟨by
              have h1 := scrRows_le g.f5 (aheadF g.f0 g.f1) (aheadF g.f2 g.f3) out none
              rw [HO2.out, Option.toList_none, List.length_nil] at h1
              have := HK.out.2; omega⟩
            clear H3 HS hj
            go_wp2
            go_roundg (ko - 1)
            case measure => have := HKO.out; have := HK.out.1; omega
            case rel => exact ⟨i + 1, OUT', (by first | (rw [HW.out]; done) | go_num | (simp; done)), ⟨by have := HKO.out; have := HK.out.1; omega, HB3.out⟩, H2, ⟨by rw [← HE.out]; exact HI.out⟩⟩
      · have z1_ : decide ((i : Int) < (l0.length : Int)) = false := decide_eq_false (by omega)
        have z1n : decide (i < l0.length) = false := decide_eq_false hi
        have H1 := H.out
        rw [List.drop_of_length_le (by omega)] at H1
        simp only [scrHunks] at H1
        subst H1
        obtain ⟨A9, c9, rfl⟩ := Kd.R_slice HI.out.r
        clear H hi
        cases z2 with
        | none =>
          go_wp2_with (first | (go_at_call 17; (with_reducible refine (edits_Normal.calls k _ _ out n m z1 none _ (Kd.R_reads' HI.out.r).2.2 (Kd.R_reads' HI.out.r).2.1 HN.out).mono ?_); rintro e w5 ⟨v5, rfl, ho, hb⟩; have HO5 := Aside0.mk ho; have HB5 := Aside0.mk (below_step HI.out.below hb); have HS5 := Aside0.mk HI.out.below.size; clear ho hb HI; simp only [errW_none]) | (go_at_call 31; (with_reducible refine (is_none 1 _).mono ?_); rintro e w' ⟨rfl, rfl⟩))
          go_ret2
          have hz := HZ2.out
          rw [if_neg (by simp)] at hz
          subst hz
          exact ⟨_, by first | rfl | simp [errW_none], Kd.R_lower HO5.out HS5.out, HB5.out⟩
        | some x =>
          by_cases hx : x = 1
          · have kx : (x == 1) = true := beq_iff_eq.mpr hx
            have HX := Aside0.mk hx
            clear hx
            go_wp2_with (first | (go_at_call 17; (with_reducible refine (edits_Normal.calls k _ _ out n m z1 (some x) _ (Kd.R_reads' HI.out.r).2.2 (Kd.R_reads' HI.out.r).2.1 HN.out).mono ?_); rintro e w5 ⟨v5, rfl, ho, hb⟩; have HO5 := Aside0.mk ho; have HB5 := Aside0.mk (below_step HI.out.below hb); have HS5 := Aside0.mk HI.out.below.size; clear ho hb HI; simp only [errW_some]) | (go_at_call 31; (with_reducible refine (is_errno x 1 _).mono ?_); rintro e w' ⟨rfl, rfl⟩))
            go_ret2
            have hz := HZ2.out
            rw [if_pos (by rw [HX.out])] at hz
            subst hz
            exact ⟨_, by first | rfl | simp [errW_some], Kd.R_lower HO5.out HS5.out, HB5.out⟩
          · have kx : (x == 1) = false := beq_eq_false_iff_ne.mpr hx
            have HX := Aside0.mk hx
            clear hx
            go_wp2_with (first | (go_at_call 17; (with_reducible refine (edits_Normal.calls k _ _ out n m z1 (some x) _ (Kd.R_reads' HI.out.r).2.2 (Kd.R_reads' HI.out.r).2.1 HN.out).mono ?_); rintro e w5 ⟨v5, rfl, ho, hb⟩; have HO5 := Aside0.mk ho; have HB5 := Aside0.mk (below_step HI.out.below hb); have HS5 := Aside0.mk HI.out.below.size; clear ho hb HI; simp only [errW_some]) | (go_at_call 31; (with_reducible refine (is_errno x 1 _).mono ?_); rintro e w' ⟨rfl, rfl⟩))
            go_ret2
            have hz := HZ2.out
            rw [if_neg (fun e => HX.out (Option.some.inj e))] at hz
            subst hz
            exact ⟨_, by first | rfl | simp [errW_some], Kd.R_lower HO5.out HS5.out, HB5.out⟩
end Go.Proofs.YtecjoofjiockkaaDoor.Ext
