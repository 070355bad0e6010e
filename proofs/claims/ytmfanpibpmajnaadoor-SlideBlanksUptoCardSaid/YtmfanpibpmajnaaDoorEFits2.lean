/-
  edits.stay with Fits' closure, walked by hand.
-/
import Derived.Test.YtmfanpibpmajnaaDoorEFits1
import Derived.Test.YtmfanpibpmajnaaDoorEPure
namespace Go.Proofs.YtmfanpibpmajnaaDoor.Ext
open Go.RowKit Go.Proofs.YtmfanpibpmajnaaDoor.Pp Go.Proofs.YtmfanpibpmajnaaDoorW.PrintWords Go.Proofs.YtmfanpibpmajnaaDoorW.PrintLast Go.Proofs.YtmfanpibpmajnaaDoorW.PrintMore
def stayF (k : Nat) (la lb : List Int) (n : Int) : List S43 → Int → Int → Bool → Option Bool
  | [], a, b, f => fits1.f k la lb f a b (wrap64 (n - a))
  | c :: t, a, b, f => (fits1.f k la lb f a b (wrap64 (c.f0 - a))).bind fun f' => stayF k la lb n t (wrap64 (c.f0 + c.f1)) (wrap64 (c.f2 + c.f3)) f'
theorem stayF.mono (la lb : List Int) (n : Int) (k : Nat) : ∀ (l : List S43) (a b : Int) (f : Bool), LeO (stayF k la lb n l a b f) (stayF (k + 1) la lb n l a b f)
  | [], _, _, _ => fits1.mono _ _ _ _ _ _ _
  | _ :: t, _, _, _ => LeO.bind (fits1.mono _ _ _ _ _ _ _) (fun _ => stayF.mono la lb n k t _ _ _)
structure FIn (wB : World) (bF bA bB : Nat) (Aa : Option Addr) (na ca : Nat) (Ab : Option Addr) (nb cb : Nat) (f : Bool) (w : World) : Prop where
  below : Below wB.heap.size wB w
  f : w.heap[bF]? = some (.cells #[.bool f] 4 (0, 0))
  a : w.heap[bA]? = some (.cells #[.slice Aa na ca] 23 (0, 0))
  b : w.heap[bB]? = some (.cells #[.slice Ab nb cb] 23 (0, 0))
theorem FIn.then {wB : World} {bF bA bB : Nat} {Aa : Option Addr} {na ca : Nat} {Ab : Option Addr} {nb cb : Nat} {f : Bool} {w w' : World} (h : FIn wB bF bA bB Aa na ca Ab nb cb f w) (k : Below w.heap.size w w') : FIn wB bF bA bB Aa na ca Ab nb cb f w' :=
  ⟨below_step h.below k, blk_below h.f k, blk_below h.a k, blk_below h.b k⟩
theorem FIn.set {wB : World} {bF bA bB : Nat} {Aa : Option Addr} {na ca : Nat} {Ab : Option Addr} {nb cb : Nat} {f : Bool} {w : World} (h : FIn wB bF bA bB Aa na ca Ab nb cb f w) (g : wB.heap.size ≤ bF) (n : Nat) (r : Bool) :
    FIn wB bF bA bB Aa na ca Ab nb cb r ((w.drewN n).setCell ⟨bF, 0, none⟩ (.bool r)) := by
  have hnA : bA ≠ bF := by intro e; have := h.a; rw [e, h.f] at this; cases this
  have hnB : bB ≠ bF := by intro e; have := h.b; rw [e, h.f] at this; cases this
  exact ⟨below_set (pw_below_drewN h.below n) g, blk_set (blk_drewN h.f n) 0 _, blk_far (blk_drewN h.a n) hnA _, blk_far (blk_drewN h.b n) hnB _⟩
theorem FIn.far {wB : World} {bF bA bB : Nat} {Aa : Option Addr} {na ca : Nat} {Ab : Option Addr} {nb cb : Nat} {f : Bool} {w : World} (h : FIn wB bF bA bB Aa na ca Ab nb cb f w) {g : Nat} (hg : wB.heap.size ≤ g) (hF : bF ≠ g) (hA : bA ≠ g) (hB : bB ≠ g) (i : Nat) (v : Value) :
    FIn wB bF bA bB Aa na ca Ab nb cb f (w.setCell ⟨g, i, none⟩ v) := ⟨below_set h.below hg, blk_far h.f hF v, blk_far h.a hA v, blk_far h.b hB v⟩
theorem drop_at {α : Type} (l : List α) (d : α) (i : Nat) (h : i < l.length) : l.drop i = l.getD i d :: l.drop (i + 1) := by
  rw [List.getD_eq_getElem?_getD, List.getElem?_eq_getElem h]
  exact List.drop_eq_getElem_cons h
set_option maxHeartbeats 8000000 in
set_option maxRecDepth 100000 in
theorem stay.calls (k bF bA bB : Nat) (A0 : Option Addr) (c0 : Nat) (l0 : List S43) (n : Int) (f r : Bool) (Aa Ab : Option Addr) (ca cb : Nat) (la lb : List Int) (wB w : World)
    (gF : wB.heap.size ≤ bF) (hI : FIn wB bF bA bB Aa la.length ca Ab lb.length cb f w) (hr0 : Kd.C k43 wB A0 l0.length l0)
    (hra : Kd.C (Kd.int .i64) wB Aa la.length la) (hca : la.length ≤ ca) (hrb : Kd.C (Kd.int .i64) wB Ab lb.length lb) (hcb : lb.length ≤ cb) (hlen : l0.length ≤ 9223372036854775807) (h : stayF k la lb n l0 0 0 f = some r) :
    Calls Tryd.prog 28 #[.slice A0 l0.length c0, .int .i64 n, .func (.func 29) #[] #[.pointer (some ⟨bF, 0, none⟩), .pointer (some ⟨bA, 0, none⟩), .pointer (some ⟨bB, 0, none⟩)]] w
      fun e w' => e = .returned (.tuple #[]) ∧ FIn wB bF bA bB Aa la.length ca Ab lb.length cb r w' := by
  have hu43 := Tryd.underlying43
  have HI := Aside0.mk hI
  have HR0 := Aside0.mk hr0
  have HRa := Aside0.mk hra
  have HRb := Aside0.mk hrb
  have H0 := Aside0.mk h
  clear h hI hr0 hra hrb
  go_enter Tryd.func28, Tryd.ntmps28
  go_wp2
  go_loopg [6, 7, 12] (l0.length + 1) (fun kq v6 v7 v12 w' => ∃ (x6 x7 : Int) (i : Nat) (f' : Bool), v6 = .int .i64 x6 ∧ v7 = .int .i64 x7 ∧ v12 = .int .i64 (i : Int) ∧ Aside0 (i + kq = l0.length + 1) ∧ Aside0 (stayF k la lb n (l0.drop i) x6 x7 f' = some r) ∧ Aside0 (FIn wB bF bA bB Aa la.length ca Ab lb.length cb f' w'))
  case atStart => exact ⟨0, 0, 0, f, rfl, rfl, rfl, ⟨by omega⟩, H0, HI⟩
  case round =>
    clear HI H0
    obtain ⟨x6, x7, i, f', rfl, rfl, rfl, HK, H, HI⟩ := hrel
    by_cases hi : i < l0.length
    · have p1 : 0 ≤ (i : Int) := by omega
      have q1 : (i : Int) < (l0.length : Int) := by omega
      have H1 := H.out
      rw [drop_at l0 z43 i hi] at H1
      simp only [stayF] at H1
      obtain ⟨f2, h1, h2⟩ := Option.bind_eq_some_iff.mp H1
      replace h1 : fits1.f k la lb f' x6 x7 (wrap64 ((rd_T43 l0 (i : Int)).f0 - x6)) = some f2 := h1
      replace h2 : stayF k la lb n (l0.drop (i + 1)) (wrap64 ((rd_T43 l0 (i : Int)).f0 + (rd_T43 l0 (i : Int)).f1)) (wrap64 ((rd_T43 l0 (i : Int)).f2 + (rd_T43 l0 (i : Int)).f3)) f2 = some r := h2
      have LF := Aside0.mk (blk_lt HI.out.f)
      have LA := Aside0.mk (blk_lt HI.out.a)
      have LB := Aside0.mk (blk_lt HI.out.b)
      have LZ := Aside0.mk HI.out.below.size
      obtain ⟨ad, e1, hx0, hx1, hx2, hx3⟩ := at_T43 HR0.out (i : Int) p1 q1
      cases e1
      replace hx0 := (HI.out.below.cell (World.block_lt_of_cell? wB _ hx0)).trans hx0
      replace hx1 := (HI.out.below.cell (World.block_lt_of_cell? wB _ hx1)).trans hx1
      replace hx2 := (HI.out.below.cell (World.block_lt_of_cell? wB _ hx2)).trans hx2
      replace hx3 := (HI.out.below.cell (World.block_lt_of_cell? wB _ hx3)).trans hx3
      simp only [Int.toNat_natCast] at hx0 hx1 hx2 hx3
      have c1 : decide ((i : Int) < (l0.length : Int)) = true := decide_eq_true q1
      have H1' := Aside0.mk h1
      have H2' := Aside0.mk h2
      clear h1 h2 H1 H
      go_upto_region 4 with (first | ((with_reducible refine gate_dst (N := 9) rfl ?_); refine box_event ?hg (N := 9) ?hd (cs := #[.int .i64 0, .int .i64 0, .int .i64 0, .int .i64 0]) (t := 43) ?hr ?_; (case hd => rfl); (case hg => rfl); (case hr => first | (go_simp; done) | (go_simp; rfl)); intro gb hg wx hbox hb; have HX := Aside0.mk (HI.out.then hb); have BK := Aside0.mk hbox; clear HI; have HGB := Aside0.mk hg; clear hb hg; have hcz_0 : wx.cell? ⟨gb, 0, none⟩ = some (.int .i64 0) := (blk_cell hbox 0).trans rfl; have hcz_1 : wx.cell? ⟨gb, 1, none⟩ = some (.int .i64 0) := (blk_cell hbox 1).trans rfl; have hcz_2 : wx.cell? ⟨gb, 2, none⟩ = some (.int .i64 0) := (blk_cell hbox 2).trans rfl; have hcz_3 : wx.cell? ⟨gb, 3, none⟩ = some (.int .i64 0) := (blk_cell hbox 3).trans rfl; have hfz_0 := blk_frozen hbox 0; have hfz_1 := blk_frozen hbox 1; have hfz_2 := blk_frozen hbox 2; have hfz_3 := blk_frozen hbox 3; clear hbox))
      generalize hW4 : (((wx.setCell ⟨gb, 0, none⟩ (.int .i64 (rd_T43 l0 (i : Int)).f0)).setCell ⟨gb, 1, none⟩ (.int .i64 (rd_T43 l0 (i : Int)).f1)).setCell ⟨gb, 2, none⟩ (.int .i64 (rd_T43 l0 (i : Int)).f2)).setCell ⟨gb, 3, none⟩ (.int .i64 (rd_T43 l0 (i : Int)).f3) = W4
      have hgb := HGB.out
      have BK4 : Aside0 (W4.heap[gb]? = some (.cells #[(.int .i64 (rd_T43 l0 (i : Int)).f0), (.int .i64 (rd_T43 l0 (i : Int)).f1), (.int .i64 (rd_T43 l0 (i : Int)).f2), (.int .i64 (rd_T43 l0 (i : Int)).f3)] 43 (0, 0))) := ⟨by rw [← hW4]; exact blk_set (blk_set (blk_set (blk_set BK.out 0 _) 1 _) 2 _) 3 _⟩
      have HX4 : Aside0 (FIn wB bF bA bB Aa la.length ca Ab lb.length cb f' W4) := ⟨by
        have n1 : bF ≠ gb := by have := LF.out; omega
        have n2 : bA ≠ gb := by have := LA.out; omega
        have n3 : bB ≠ gb := by have := LB.out; omega
        have n4 : wB.heap.size ≤ gb := by have := LZ.out; omega
        rw [← hW4]
        exact (((HX.out.far n4 n1 n2 n3 0 _).far n4 n1 n2 n3 1 _).far n4 n1 n2 n3 2 _).far n4 n1 n2 n3 3 _⟩
      have NF : Aside0 (gb ≠ bF) := ⟨by have := LF.out; omega⟩
      clear hgb hW4 hcz_0 hcz_1 hcz_2 hcz_3 hfz_0 hfz_1 hfz_2 hfz_3 HX BK hx0 hx1 hx2 hx3
      have k0 : W4.cell? ⟨gb, 0, none⟩ = some (.int .i64 (rd_T43 l0 (i : Int)).f0) := (blk_cell BK4.out 0).trans rfl
      go_wp2_with ((go_at_call 29; (with_reducible refine (fits1.calls k bF bA bB f' f2 Aa Ab ca cb la lb _ _ _ _ HX4.out.f HX4.out.a HX4.out.b (Kd.C_below HRa.out HX4.out.below) hca (Kd.C_below HRb.out HX4.out.below) hcb H1'.out).mono ?_); rintro e w2 ⟨rfl, m, hw2⟩; have HX5 : Aside0 (FIn wB bF bA bB Aa la.length ca Ab lb.length cb f2 w2) := ⟨by rw [hw2]; exact HX4.out.set gF m f2⟩; have BK5 : Aside0 (w2.heap[gb]? = some (.cells #[(.int .i64 (rd_T43 l0 (i : Int)).f0), (.int .i64 (rd_T43 l0 (i : Int)).f1), (.int .i64 (rd_T43 l0 (i : Int)).f2), (.int .i64 (rd_T43 l0 (i : Int)).f3)] 43 (0, 0))) := ⟨by rw [hw2]; exact blk_far (blk_drewN BK4.out m) NF.out _⟩; clear hw2; have j0 : w2.cell? ⟨gb, 0, none⟩ = some (.int .i64 (rd_T43 l0 (i : Int)).f0) := (blk_cell BK5.out 0).trans rfl; have j1 : w2.cell? ⟨gb, 1, none⟩ = some (.int .i64 (rd_T43 l0 (i : Int)).f1) := (blk_cell BK5.out 1).trans rfl; have j2 : w2.cell? ⟨gb, 2, none⟩ = some (.int .i64 (rd_T43 l0 (i : Int)).f2) := (blk_cell BK5.out 2).trans rfl; have j3 : w2.cell? ⟨gb, 3, none⟩ = some (.int .i64 (rd_T43 l0 (i : Int)).f3) := (blk_cell BK5.out 3).trans rfl))
      have hw1 : wrap64 ((i : Int) + 1) = ((i + 1 : Nat) : Int) := by rw [Pure.w64' (by omega) (by omega)]; omega
      repeat (go_quiet (fail); try go_wp2)
      go_roundg (gk - 1)
      case measure => have := HK.out; omega
      case rel => exact ⟨_, _, i + 1, f2, rfl, rfl, (by first | (rw [hw1]; done) | (simp; done)), ⟨by have := HK.out; omega⟩, H2', ⟨by first | exact HX5.out | exact HX5.out.then (pw_below_drewN (Below.refl _ _) _)⟩⟩
    · have hd : l0.drop i = [] := List.drop_of_length_le (by omega)
      have h1 := H.out
      rw [hd] at h1
      simp only [stayF] at h1
      have H1' := Aside0.mk h1
      have c1 : decide ((i : Int) < (l0.length : Int)) = false := decide_eq_false (by omega)
      clear h1 H
      go_wp2_with ((go_at_call 29; (with_reducible refine (fits1.calls k bF bA bB f' r Aa Ab ca cb la lb _ _ _ _ HI.out.f HI.out.a HI.out.b (Kd.C_below HRa.out HI.out.below) hca (Kd.C_below HRb.out HI.out.below) hcb H1'.out).mono ?_); rintro e w2 ⟨rfl, m, hw2⟩; have HX5 : Aside0 (FIn wB bF bA bB Aa la.length ca Ab lb.length cb r w2) := ⟨by rw [hw2]; exact HI.out.set gF m r⟩; clear hw2))
      go_end0
      exact ⟨rfl, HX5.out⟩
end Go.Proofs.YtmfanpibpmajnaaDoor.Ext
