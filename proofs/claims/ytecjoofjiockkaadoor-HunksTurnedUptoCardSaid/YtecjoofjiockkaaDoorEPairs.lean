/-
  edits.Pairs, its closure, stay with it; walked by hand.
-/
import Derived.Test.YtecjoofjiockkaaDoorPp12
import Derived.Test.YtecjoofjiockkaaDoorEPure
import Derived.OneCell
namespace Go.Proofs.YtecjoofjiockkaaDoor.Ext
open Go.RowKit Go.Proofs.YtecjoofjiockkaaDoor.Pp Go.Proofs.YtecjoofjiockkaaDoorW.PrintWords Go.Proofs.YtecjoofjiockkaaDoorW.PrintLast Go.Proofs.YtecjoofjiockkaaDoorW.PrintMore
set_option linter.unusedVariables false
set_option linter.unusedSimpArgs false
def runL (a b : Int) : Nat → Nat → List S37
  | _, 0 => []
  | i, d + 1 => ⟨wrap64 (a + (i : Int)), wrap64 (b + (i : Int))⟩ :: runL a b (i + 1) d
def pairsStay (n : Int) : List S53 → Int → Int → List S37 → List S37
  | [], a, b, out => out ++ runL a b 0 (wrap64 (n - a)).toNat
  | c :: t, a, b, out => pairsStay n t (wrap64 (c.f0 + c.f1)) (wrap64 (c.f2 + c.f3)) (out ++ runL a b 0 (wrap64 (c.f0 - a)).toNat)
theorem pairsStay_le (n : Int) : ∀ (l : List S53) (a b : Int) (out : List S37), out.length ≤ (pairsStay n l a b out).length
  | [], a, b, out => by unfold pairsStay; rw [List.length_append]; omega
  | c :: t, a, b, out => by
    unfold pairsStay
    have := pairsStay_le n t (wrap64 (c.f0 + c.f1)) (wrap64 (c.f2 + c.f3)) (out ++ runL a b 0 (wrap64 (c.f0 - a)).toNat)
    rw [List.length_append] at this; omega
theorem runL_length (a b : Int) : ∀ (d i : Nat), (runL a b i d).length = d
  | 0, _ => rfl
  | d + 1, i => by unfold runL; rw [List.length_cons, runL_length a b d (i + 1)]
def edits_Pairs.f (k : Nat) (l0 : List S53) (n m : Int) : Option (List S37 × Option Int) :=
  if l0.length ≤ 9223372036854775807 then
    (edits_Valid.f k l0 n m).bind fun e =>
      if e.isNone = true then (if (pairsStay n l0 0 0 []).length ≤ 1000000000 then some (pairsStay n l0 0 0 [], none) else none) else some ([], e)
  else none
theorem edits_Pairs.mono : ∀ a0 a1 a2 k, LeO (edits_Pairs.f k a0 a1 a2) (edits_Pairs.f (k + 1) a0 a1 a2) := by
  intro a0 a1 a2 k
  unfold edits_Pairs.f
  exact LeO.ite (LeO.bind (edits_Valid.mono _ _ _ _) (fun _ => LeO.refl _)) (LeO.refl _)
structure PairIn (w0 : World) (g : Nat) (v : Value) (out : List S37) (w : World) : Prop where
  below : Below w0.heap.size w0 w
  b : w.heap[g]? = some (.cells #[v] 34 (0, 0))
  r : Kd.R k37 37 w w0.heap.size (fun _ => True) v out
  l : w0.heap.size ≤ g
section
variable {w0 w w1 : World} {g : Nat} {v v1 : Value} {out out1 : List S37}
theorem PairIn.then (i : PairIn w0 g v out w) (k : Below w.heap.size w w1) : PairIn w0 g v out w1 := ⟨below_step i.below k, blk_below i.b k, Kd.R_below i.r k, i.l⟩
theorem PairIn.set (i : PairIn w0 g v out w) {q t : Nat} {cs : Array Value} (hb : w.heap[q]? = some (.cells cs t (0, 0))) (hl : w0.heap.size ≤ q) (ht : ∀ p, p ∈ 37 :: k37.E → p ≠ t) (ht2 : 34 ≠ t) (j : Nat) (y : Value) : PairIn w0 g v out (w.setCell ⟨q, j, none⟩ y) :=
  ⟨below_set i.below hl, blk_far i.b (blk_ne i.b hb ht2) y, Kd.R_set i.r hb ht j y, i.l⟩
theorem PairIn.stored (i : PairIn w0 g v out w) (hb : Below w0.heap.size w0 w1) (hg : w.grownBy w1 v.ownBlock) (ho : Kd.R k37 37 w1 w0.heap.size (fun _ => True) v1 out1) : PairIn w0 g v1 out1 (w1.setCell ⟨g, 0, none⟩ v1) := by
  have c := blk_grown i.b hg (Kd.R_ne i.r i.b (by decide))
  exact ⟨below_set hb i.l, (blk_set c 0 v1).trans rfl, Kd.R_set ho c (by decide) 0 v1, i.l⟩
end
set_option maxHeartbeats 4000000 in
set_option maxRecDepth 100000 in
theorem pairs1.calls (w0 : World) (g : Nat) (v : Value) (out : List S37) (a b c : Int) (w : World) (hI : PairIn w0 g v out w) (hl : out.length + c.toNat ≤ 1000000000) :
    Calls Tryd.prog 38 #[.int .i64 a, .int .i64 b, .int .i64 c, .pointer (some ⟨g, 0, none⟩)] w
      fun e w' => e = .returned (.tuple #[]) ∧ ∃ v1, PairIn w0 g v1 (out ++ runL a b 0 c.toNat) w' ∧ ∀ q, q < w.heap.size → q ≠ g → some q ≠ v.ownBlock → w'.heap[q]? = w.heap[q]? := by
  have HI := Aside0.mk hI
  have HL := Aside0.mk hl
  clear hI hl
  go_enter Tryd.func38, Tryd.ntmps38
  go_wp2
  go_loopg [9] (c.toNat + 1) (fun kq v9 w' => ∃ (i : Nat) (v' : Value) (o' : List S37), v9 = .int .i64 (i : Int) ∧ Aside0 (i + kq = c.toNat + 1 ∧ o'.length + (c.toNat - i) ≤ 1000000000) ∧ Aside0 (o' ++ runL a b i (c.toNat - i) = out ++ runL a b 0 c.toNat) ∧ Aside0 (PairIn w0 g v' o' w') ∧ Aside0 (w.heap.size ≤ w'.heap.size ∧ (∀ q, q < w.heap.size → some q ≠ v.ownBlock → some q ≠ v'.ownBlock) ∧ ∀ q, q < w.heap.size → q ≠ g → some q ≠ v.ownBlock → w'.heap[q]? = w.heap[q]?))
  case atStart => exact ⟨0, v, out, rfl, ⟨by omega, by have := HL.out; omega⟩, ⟨rfl⟩, HI, ⟨Nat.le_refl _, fun _ _ h => h, fun _ _ _ _ => rfl⟩⟩
  case round =>
    clear HI
    obtain ⟨i, v', o', rfl, HK, H, HI, HP⟩ := hrel
    by_cases hi : i < c.toNat
    · have z1_ : decide ((i : Int) < c) = true := decide_eq_true (by omega)
      have HW : Aside0 (wrap64 ((i : Int) + 1) = ((i + 1 : Nat) : Int)) := ⟨by rw [Pure.w64' (by omega) (by have := HL.out; omega)]; omega⟩
      have H2 : Aside0 ((o' ++ [⟨wrap64 (a + (i : Int)), wrap64 (b + (i : Int))⟩]) ++ runL a b (i + 1) (c.toNat - (i + 1)) = out ++ runL a b 0 c.toNat) := ⟨by
        rw [← H.out, show c.toNat - i = (c.toNat - (i + 1)) + 1 by omega, runL, List.append_assoc]; rfl⟩
      clear H
      obtain ⟨A', m', k', rfl⟩ : ∃ A m k, v' = .slice A m k := by
        obtain ⟨A, k, e, _, _⟩ := Kd.R_reads HI.out.r
        exact ⟨A, _, k, e⟩
      have c9 := cell_of_one HI.out.b
      go_wp2_with ((with_reducible refine gate_builtin (b := .append) (xs := #[.tmp 12, .tmp 20]) rfl ?_); at_builtin; refine Kd.R_append k37 (w0 := w0) w0.heap.size rfl (.tmp 12) (.tmp 20) 34 37 (.agg #[(.int .i64 0), (.int .i64 0)]) 16 rfl Tryd.underlying34 info37 rfl (by decide) (by omega) (.slice A' m' k') o' (⟨wrap64 (a + (i : Int)), wrap64 (b + (i : Int))⟩ : S37) [.int .i64 (wrap64 (a + (i : Int))), .int .i64 (wrap64 (b + (i : Int)))] (fun _ => True) (fun _ => False) rfl rfl ?aP (fun _ hk => hk.elim) (fun _ _ => trivial) ?aO ?aB ?aS ?aL ?_; (case aP => exact k37_mkM _ _ _ (⟨wrap64 (a + (i : Int)), wrap64 (b + (i : Int))⟩ : S37)); (case aB => exact HI.out.below); (case aO => exact HI.out.r); (case aS => exact HI.out.below.size); (case aL => have := HK.out.2; omega); intro v1 w1 ho hb hg hat; obtain ⟨A1, m1, k1, rfl⟩ : (∃ A m k, v1 = .slice A m k) := (by obtain ⟨A, k, e, _, _⟩ := Kd.R_reads ho; exact ⟨A, _, k, e⟩); have HS := Aside0.mk (HI.out.stored hb hg ho); have d := blk_grown HI.out.b hg (Kd.R_ne HI.out.r HI.out.b (by decide)); have HP2 := Aside0.mk (show w.heap.size ≤ (w1.setCell ⟨g, 0, none⟩ (.slice A1 m1 k1)).heap.size ∧ (∀ q, q < w.heap.size → some q ≠ v.ownBlock → some q ≠ (Value.slice A1 m1 k1).ownBlock) ∧ ∀ q, q < w.heap.size → q ≠ g → some q ≠ v.ownBlock → (w1.setCell ⟨g, 0, none⟩ (.slice A1 m1 k1)).heap[q]? = w.heap[q]? from ⟨by have := HP.out.1; have := hg.size; simp; omega, fun q h1 h2 => (by rcases hat with e | ⟨y, e, hle⟩; rw [e]; exact HP.out.2.1 q h1 h2; rw [e]; intro e2; injection e2 with e2; have := HP.out.1; omega), fun q h1 h2 h3 => (Below.heap_setCell w1 ⟨g, 0, none⟩ (.slice A1 m1 k1) q h2).trans ((hg.block q (Nat.lt_of_lt_of_le h1 HP.out.1) (HP.out.2.1 q h1 h3)).trans (HP.out.2.2 q h1 h2 h3))⟩); have hs5 := (blk_cell d 0).trans rfl; have hf5 := blk_frozen d 0; clear d HI HP ho hb hg hat)
      go_roundg (gk - 1)
      case measure => have := HK.out; omega
      case rel => exact ⟨i + 1, _, _, (by first | (rw [HW.out]; done) | go_num | (simp; done)), ⟨by have := HK.out; simp only [List.length_append, List.length_cons, List.length_nil]; omega⟩, H2, ⟨HS.out⟩, ⟨HP2.out⟩⟩
    · have z1_ : decide ((i : Int) < c) = false := decide_eq_false (by omega)
      have H1 := H.out
      rw [show c.toNat - i = 0 by omega, runL, List.append_nil] at H1
      have HE := Aside0.mk H1
      clear H H1
      go_wp2
      go_end0
      exact ⟨rfl, _, by rw [← HE.out]; exact HI.out, HP.out.2.2⟩
theorem pairsdrop {α : Type} (l : List α) (d : α) (i : Nat) (h : i < l.length) : l.drop i = l.getD i d :: l.drop (i + 1) := by
  rw [List.getD_eq_getElem?_getD, List.getElem?_eq_getElem h]
  exact List.drop_eq_getElem_cons h
set_option maxHeartbeats 8000000 in
set_option maxRecDepth 100000 in
theorem pstay.calls (w0 : World) (g : Nat) (A0 : Option Addr) (c0 : Nat) (l0 : List S53) (n : Int) (v : Value) (R : List S37) (w : World) (hI : PairIn w0 g v [] w) (hr0 : Kd.C k53 w0 A0 l0.length l0) (hlen : l0.length ≤ 9223372036854775807)
    (h : pairsStay n l0 0 0 [] = R) (hR : R.length ≤ 1000000000) :
    Calls Tryd.prog 37 #[.slice A0 l0.length c0, .int .i64 n, .func (.func 38) #[] #[.pointer (some ⟨g, 0, none⟩)]] w
      fun e w' => e = .returned (.tuple #[]) ∧ ∃ v1, PairIn w0 g v1 R w' := by
  have hu43 := Tryd.underlying53
  have HI := Aside0.mk hI
  have HR0 := Aside0.mk hr0
  have H0 := Aside0.mk h
  have HRL := Aside0.mk hR
  have HLEN := Aside0.mk hlen
  clear h hI hr0 hR hlen
  go_enter Tryd.func37, Tryd.ntmps37
  go_wp2
  go_loopg [6, 7, 12] (l0.length + 1) (fun kq v6 v7 v12 w' => ∃ (x6 x7 : Int) (i : Nat) (v' : Value) (out : List S37), v6 = .int .i64 x6 ∧ v7 = .int .i64 x7 ∧ v12 = .int .i64 (i : Int) ∧ Aside0 (i + kq = l0.length + 1) ∧ Aside0 (pairsStay n (l0.drop i) x6 x7 out = R) ∧ Aside0 (PairIn w0 g v' out w'))
  case atStart => exact ⟨0, 0, 0, v, [], rfl, rfl, rfl, ⟨by omega⟩, H0, HI⟩
  case round =>
    clear HI H0
    obtain ⟨x6, x7, i, v', out, rfl, rfl, rfl, HK, H, HI⟩ := hrel
    by_cases hi : i < l0.length
    · have p1 : 0 ≤ (i : Int) := by omega
      have q1 : (i : Int) < (l0.length : Int) := by omega
      have H1 := H.out
      rw [pairsdrop l0 z53 i hi] at H1
      simp only [pairsStay] at H1
      have hrd : l0.getD i z53 = rd_T53 l0 (i : Int) := rfl
      rw [hrd] at H1
      obtain ⟨ad, e1, hx0, hx1, hx2, hx3⟩ := at_T53 HR0.out (i : Int) p1 q1
      cases e1
      replace hx0 := pw_cell_below HI.out.below hx0
      replace hx1 := pw_cell_below HI.out.below hx1
      replace hx2 := pw_cell_below HI.out.below hx2
      replace hx3 := pw_cell_below HI.out.below hx3
      simp only [Int.toNat_natCast] at hx0 hx1 hx2 hx3
      have c1 : decide ((i : Int) < (l0.length : Int)) = true := decide_eq_true q1
      generalize rd_T53 l0 (i : Int) = c at H1 hx0 hx1 hx2 hx3
      clear hrd H
      have H2 := Aside0.mk H1
      have HL : Aside0 (out.length + (wrap64 (c.f0 - x6)).toNat ≤ 1000000000) := ⟨by
        have := pairsStay_le n (l0.drop (i + 1)) (wrap64 (c.f0 + c.f1)) (wrap64 (c.f2 + c.f3)) (out ++ runL x6 x7 0 (wrap64 (c.f0 - x6)).toNat)
        rw [H1, List.length_append, runL_length] at this
        exact Nat.le_trans this HRL.out⟩
      clear H1
      go_upto_region 4 with (first | ((with_reducible refine gate_dst (N := 9) rfl ?_); refine box_event ?hg (N := 9) ?hd (cs := #[.int .i64 0, .int .i64 0, .int .i64 0, .int .i64 0]) (t := 53) ?hr ?_; (case hd => rfl); (case hg => rfl); (case hr => first | (go_simp; done) | (go_simp; rfl)); intro gb hg wx hbox hb; have HX := Aside0.mk (HI.out.then hb); have BK := Aside0.mk hbox; have GE := Aside0.mk (show w0.heap.size ≤ gb from by rw [hg]; exact HI.out.below.size); have GV := Aside0.mk (show some gb ≠ v'.ownBlock from fun e => by have := Kd.R_lt HI.out.r gb e.symm; omega); clear HI hb hg; have hcz_0 : wx.cell? ⟨gb, 0, none⟩ = some (.int .i64 0) := (blk_cell hbox 0).trans rfl; have hcz_1 : wx.cell? ⟨gb, 1, none⟩ = some (.int .i64 0) := (blk_cell hbox 1).trans rfl; have hcz_2 : wx.cell? ⟨gb, 2, none⟩ = some (.int .i64 0) := (blk_cell hbox 2).trans rfl; have hcz_3 : wx.cell? ⟨gb, 3, none⟩ = some (.int .i64 0) := (blk_cell hbox 3).trans rfl; have hfz_0 := blk_frozen hbox 0; have hfz_1 := blk_frozen hbox 1; have hfz_2 := blk_frozen hbox 2; have hfz_3 := blk_frozen hbox 3; clear hbox))
      have BK4 : Aside0 (((((wx.setCell ⟨gb, 0, none⟩ (.int .i64 c.f0)).setCell ⟨gb, 1, none⟩ (.int .i64 c.f1)).setCell ⟨gb, 2, none⟩ (.int .i64 c.f2)).setCell ⟨gb, 3, none⟩ (.int .i64 c.f3)).heap[gb]? = some (.cells #[(.int .i64 c.f0), (.int .i64 c.f1), (.int .i64 c.f2), (.int .i64 c.f3)] 53 (0, 0))) := ⟨(blk_set (blk_set (blk_set (blk_set BK.out 0 _) 1 _) 2 _) 3 _).trans rfl⟩
      have HX4 : Aside0 (PairIn w0 g v' out ((((wx.setCell ⟨gb, 0, none⟩ (.int .i64 c.f0)).setCell ⟨gb, 1, none⟩ (.int .i64 c.f1)).setCell ⟨gb, 2, none⟩ (.int .i64 c.f2)).setCell ⟨gb, 3, none⟩ (.int .i64 c.f3))) := ⟨(((HX.out.set BK.out GE.out (by decide) (by decide) 0 _).set (blk_set BK.out 0 _) GE.out (by decide) (by decide) 1 _).set (blk_set (blk_set BK.out 0 _) 1 _) GE.out (by decide) (by decide) 2 _).set (blk_set (blk_set (blk_set BK.out 0 _) 1 _) 2 _) GE.out (by decide) (by decide) 3 _⟩
      generalize (((wx.setCell ⟨gb, 0, none⟩ (.int .i64 c.f0)).setCell ⟨gb, 1, none⟩ (.int .i64 c.f1)).setCell ⟨gb, 2, none⟩ (.int .i64 c.f2)).setCell ⟨gb, 3, none⟩ (.int .i64 c.f3) = W4 at BK4 HX4 ⊢
      clear hcz_0 hcz_1 hcz_2 hcz_3 hfz_0 hfz_1 hfz_2 hfz_3 HX BK hx0 hx1 hx2 hx3
      have k0 : W4.cell? ⟨gb, 0, none⟩ = some (.int .i64 c.f0) := (blk_cell BK4.out 0).trans rfl
      go_wp2_with ((go_at_call 38; (with_reducible refine (pairs1.calls w0 g v' out _ _ _ _ HX4.out HL.out).mono ?_); rintro e w2 ⟨rfl, v2, hi2, hkeep⟩; have BK5 := Aside0.mk ((hkeep gb (blk_lt BK4.out) (blk_ne BK4.out HX4.out.b (by decide)) GV.out).trans BK4.out); have HX5 := Aside0.mk hi2; clear hi2 hkeep HX4 BK4 GV k0; have j0 : w2.cell? ⟨gb, 0, none⟩ = some (.int .i64 c.f0) := (blk_cell BK5.out 0).trans rfl; have j1 : w2.cell? ⟨gb, 1, none⟩ = some (.int .i64 c.f1) := (blk_cell BK5.out 1).trans rfl; have j2 : w2.cell? ⟨gb, 2, none⟩ = some (.int .i64 c.f2) := (blk_cell BK5.out 2).trans rfl; have j3 : w2.cell? ⟨gb, 3, none⟩ = some (.int .i64 c.f3) := (blk_cell BK5.out 3).trans rfl))
      have hw1 : wrap64 ((i : Int) + 1) = ((i + 1 : Nat) : Int) := by rw [Pure.w64' (by omega) (by have := HLEN.out; omega)]; omega
      repeat (go_quiet (fail); try go_wp2)
      go_roundg (gk - 1)
      case measure => have := HK.out; omega
      case rel => exact ⟨_, _, i + 1, _, _, rfl, rfl, (by first | (rw [hw1]; done) | (simp; done)), ⟨by have := HK.out; omega⟩, H2, ⟨by first | exact HX5.out | exact HX5.out.then (pw_below_drewN (Below.refl _ _) _)⟩⟩
    · have hd : l0.drop i = [] := List.drop_of_length_le (by omega)
      have H1 := H.out
      rw [hd] at H1
      simp only [pairsStay] at H1
      have HL : Aside0 (out.length + (wrap64 (n - x6)).toNat ≤ 1000000000) := ⟨by have := HRL.out; rw [← H1, List.length_append, runL_length] at this; exact this⟩
      have H2 := Aside0.mk H1
      have c1 : decide ((i : Int) < (l0.length : Int)) = false := decide_eq_false (by omega)
      clear H1 H hd
      go_wp2_with ((go_at_call 38; (with_reducible refine (pairs1.calls w0 g v' out _ _ _ _ HI.out HL.out).mono ?_); rintro e w2 ⟨rfl, v2, hi2, hkeep⟩; have HX5 := Aside0.mk hi2; clear hi2 hkeep))
      go_end0
      exact ⟨rfl, _, by rw [← H2.out]; exact HX5.out⟩
set_option maxHeartbeats 8000000 in
set_option maxRecDepth 100000 in
theorem edits_Pairs.calls (k : Nat) (A0 : Option Addr) (c0 : Nat) (l0 : List S53) (n m : Int) (r1 : List S37) (r2 : Option Int) (w : World) (hr0 : Kd.C k53 w A0 l0.length l0) (hc0 : l0.length ≤ c0) (h : edits_Pairs.f k l0 n m = some (r1, r2)) :
    Calls Tryd.prog 21 #[.slice A0 l0.length c0, .int .i64 n, .int .i64 m] w fun e w' => ∃ v0_ : Value, e = .returned (.tuple #[v0_, errW r2]) ∧ Kd.R k37 37 w' w.heap.size (fun _ => True) v0_ r1 ∧ Below w.heap.size w w' := by
  unfold edits_Pairs.f at h
  split at h
  case isFalse => cases h
  rename_i hlen
  obtain ⟨e, hV, h⟩ := Option.bind_eq_some_iff.mp h
  have HV := Aside0.mk hV
  have HR0 := Aside0.mk hr0
  have HLEN := Aside0.mk hlen
  have HB := Aside0.mk (Below.refl w.heap.size w)
  clear hV hr0 hlen
  have hmf : ∀ (fn : Fn) (first cap : Array Value) (w : World), (Instr.makeFunc fn first cap).run Tryd.prog w = .ok (.func fn first cap) w := fun _ _ _ _ => rfl
  cases e with
  | some x =>
    rw [if_neg (by simp)] at h
    simp only [Option.some.injEq, Prod.mk.injEq] at h
    obtain ⟨rfl, rfl⟩ := h
    go_enter Tryd.func21, Tryd.ntmps21
    go_wp2_with (go_at_call 33; (with_reducible refine (edits_Valid.calls k _ _ l0 n m (some x) _ HR0.out hc0 HV.out).mono ?_); rintro e w2 ⟨rfl, hb⟩; have HB2 := Aside0.mk (below_step HB.out hb); clear hb HB; simp only [errW_some])
    go_ret2
    exact ⟨_, by first | rfl | simp [errW_some], Kd.R_nil _ _ _ _ _, HB2.out⟩
  | none =>
    rw [if_pos (show (none : Option Int).isNone = true from rfl)] at h
    split at h
    case isFalse => cases h
    rename_i hl
    simp only [Option.some.injEq, Prod.mk.injEq] at h
    obtain ⟨he, rfl⟩ := h
    have HL := Aside0.mk hl
    have HE := Aside0.mk he
    clear hl he
    go_enter Tryd.func21, Tryd.ntmps21
    go_upto_region 5 with (go_at_call 33; (with_reducible refine (edits_Valid.calls k _ _ l0 n m none _ HR0.out hc0 HV.out).mono ?_); rintro e w2 ⟨rfl, hb⟩; have HB2 := Aside0.mk (below_step HB.out hb); clear hb HB; simp only [errW_none])
    have HX : Aside0 (PairIn w w2.heap.size (.slice none 0 0) [] (w2.alloc (Obj.cells #[Value.slice none 0 0] 34))) := ⟨⟨below_alloc HB2.out _, blk_new _ _, Kd.R_nil _ _ _ _ _, HB2.out.size⟩⟩
    have HRL : Aside0 (r1.length ≤ 1000000000) := ⟨by rw [← HE.out]; exact HL.out⟩
    generalize w2.alloc (Obj.cells #[Value.slice none 0 0] 34) = W3 at HX ⊢
    go_upto_region 6 with (go_at_call 37; (with_reducible refine (pstay.calls w w2.heap.size A0 c0 l0 n _ r1 _ HX.out HR0.out HLEN.out HE.out HRL.out).mono ?_); rintro e w4 ⟨rfl, v1, hx⟩; have HX4 := Aside0.mk hx; clear hx HX)
    obtain ⟨A1, m1, k1, rfl⟩ : ∃ A m k, v1 = .slice A m k := by
      obtain ⟨A, k, e, _, _⟩ := Kd.R_reads HX4.out.r
      exact ⟨A, _, k, e⟩
    have c9 := cell_of_one HX4.out.b
    go_wp2
    go_ret2
    exact ⟨_, by first | rfl | simp [errW_none], HX4.out.r, HX4.out.below⟩
end Go.Proofs.YtecjoofjiockkaaDoor.Ext
