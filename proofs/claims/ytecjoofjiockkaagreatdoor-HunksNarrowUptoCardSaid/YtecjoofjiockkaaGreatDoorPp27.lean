import Derived.Test.YtecjoofjiockkaaGreatDoorESt
import Derived.Test.YtecjoofjiockkaaGreatDoorPp0
import Derived.Test.YtecjoofjiockkaaGreatDoorPp4
import Derived.Test.YtecjoofjiockkaaGreatDoorPp6
import Derived.Test.YtecjoofjiockkaaGreatDoorPp8
import Derived.Test.YtecjoofjiockkaaGreatDoorPp22
namespace Go.Proofs.YtecjoofjiockkaaGreatDoor.Pp
open Go.RowKit Go.Proofs.YtecjoofjiockkaaGreatDoor.Ext Go.Proofs.YtecjoofjiockkaaGreatDoorW.PrintWords Go.Proofs.YtecjoofjiockkaaGreatDoorW.PrintLast Go.Proofs.YtecjoofjiockkaaGreatDoorW.PrintMore
attribute [local go_sem] max2_int min2_int max_two min_two max_three min_three max_four min_four   -- for this text's walks alone
set_option linter.unusedVariables false
set_option linter.unusedSimpArgs false
def selvageref10_cut.f (k : Nat) (a0_0 : Int) (a0_1 : Int) (a0_2 : Int) (a0_3 : Int) (a0_4 : ByteArray) (l0_5 : List (S53)) (a1 : Int) (a2 : Int) : Option (Int × Int × Int × Int × ByteArray × (List (S53))) := if 0 ≤ a1 then (if a1 ≤ (l0_5.length : Int) then ((selvageref10_Counts.f k (l0_5.take (a1 : Int).toNat)).bind fun bt572 => ((selvageref10_Place.f a0_0 a0_1).bind fun t574 => ((selvageref10_Place.f a0_2 a0_3).bind fun t575 => (if a1 ≤ a2 then (if a2 ≤ (l0_5.length : Int) then ((some ((l0_5.take (a2 : Int).toNat).drop (a1 : Int).toNat : List (S53))).bind fun y576 => (if ([] : List (S53)).length + y576.length < 5864062014805 then ((some (([] : List (S53)) ++ y576 : List (S53))).bind fun y580 => ((selvageref10_Counts.f k y580).bind fun bt583 => ((selvageref10_stated.f (wrap64 (t574 + bt572.1)) bt583.1).bind fun t585 => ((selvageref10_stated.f (wrap64 (t575 + bt572.2)) bt583.2).bind fun t586 => (some (t585, bt583.1, t586, bt583.2, (⟨#[]⟩ : ByteArray), y580)))))) else (none))) else (none)) else (none))))) else (none)) else (none)
structure CutIn (w : World) (g3 g6 : Nat) (cs : Array Value) (W : World) : Prop where
  below : Below w.heap.size w W
  b3 : W.heap[g3]? = some (.cells cs 29 (0, 0))
  b6 : W.heap[g6]? = some (.cells #[.int .i64 0, .int .i64 0, .int .i64 0, .int .i64 0, .string ⟨#[]⟩, .slice none 0 0] 29 (0, 0))
  l3 : w.heap.size ≤ g3
  l6 : w.heap.size ≤ g6
theorem CutIn.then {w W W2 : World} {g3 g6 : Nat} {cs : Array Value} (i : CutIn w g3 g6 cs W) (k : Below W.heap.size W W2) : CutIn w g3 g6 cs W2 := ⟨below_step i.below k, blk_below i.b3 k, blk_below i.b6 k, i.l3, i.l6⟩
theorem at_blk2 {w : World} {o : Obj} {n : Nat} (h : w.heap.size = n) : (w.alloc o).heap[n]? = some o := by rw [← h]; exact blk_new w o
set_option maxHeartbeats 8000000 in
set_option maxRecDepth 100000 in
theorem selvageref10_cut.calls (k : Nat) (a0_0 : Int) (a0_1 : Int) (a0_2 : Int) (a0_3 : Int) (a0_4 : ByteArray) (A0_5 : Option Addr) (c0_5 : Nat) (l0_5 : List (S53)) (a1 : Int) (a2 : Int) (r1 : Int) (r2 : Int) (r3 : Int) (r4 : Int) (r5 : ByteArray) (r6 : List (S53)) (w : World) (hr0_5 : Kd.C k53 w A0_5 l0_5.length l0_5) (hc0_5 : l0_5.length ≤ c0_5) (h : selvageref10_cut.f k a0_0 a0_1 a0_2 a0_3 a0_4 l0_5 a1 a2 = some (r1, r2, r3, r4, r5, r6)) :
  Calls Tryz.prog 65 #[.agg #[.int .i64 a0_0, .int .i64 a0_1, .int .i64 a0_2, .int .i64 a0_3, .string a0_4, .slice A0_5 l0_5.length c0_5], .int .i64 a1, .int .i64 a2] w fun e w' => ∃ v5_ : Value, e = .returned (.agg #[.int .i64 r1, .int .i64 r2, .int .i64 r3, .int .i64 r4, .string r5, v5_]) ∧ Kd.R k53 53 w' w.heap.size (fun _ => True) v5_ r6 ∧ Below w.heap.size w w' := by
 have hu29 := Tryz.underlying29
 have HR := Aside0.mk hr0_5
 have HC := Aside0.mk hc0_5
 clear hr0_5 hc0_5
 unfold selvageref10_cut.f at h
 split at h
 case isFalse => cases h
 rename_i q1
 split at h
 case isFalse => cases h
 rename_i q2
 obtain ⟨⟨n1, m1⟩, C1, h⟩ := Option.bind_eq_some_iff.mp h
 obtain ⟨t1, P1, h⟩ := Option.bind_eq_some_iff.mp h
 obtain ⟨t2, P2, h⟩ := Option.bind_eq_some_iff.mp h
 split at h
 case isFalse => cases h
 rename_i q3
 split at h
 case isFalse => cases h
 rename_i q4
 obtain ⟨y, hy, h⟩ := Option.bind_eq_some_iff.mp h
 split at h
 case isFalse => cases h
 rename_i q5
 obtain ⟨y', hy', h⟩ := Option.bind_eq_some_iff.mp h
 simp only [Option.some.injEq, List.nil_append] at hy hy'
 subst hy'
 obtain ⟨⟨n2, m2⟩, C2, h⟩ := Option.bind_eq_some_iff.mp h
 obtain ⟨t3, S1, h⟩ := Option.bind_eq_some_iff.mp h
 obtain ⟨t4, S2, h⟩ := Option.bind_eq_some_iff.mp h
 simp only [Option.some.injEq, Prod.mk.injEq] at h
 obtain ⟨rfl, rfl, rfl, rfl, rfl, rfl⟩ := h
 obtain ⟨y1, hy1⟩ : ∃ y1, y1 = l0_5.take a1.toNat := ⟨_, rfl⟩
 rw [← hy1] at C1
 obtain ⟨i0, hi0, _, hsz, _⟩ := info_parts info53
 have hl1 : y1.length = a1.toNat := by rw [hy1, List.length_take]; omega
 have hl2 : y.length = a2.toNat - a1.toNat := by rw [← hy, List.length_drop, List.length_take]; omega
 have hcut1 := cut_to (P := Tryz.prog) 27 53 .i64 Tryz.underlying27 hi0 A0_5 l0_5.length c0_5 a1 q1 q2 HC.out
 have hcut2 := cut_mid (P := Tryz.prog) 27 53 .i64 .i64 Tryz.underlying27 hi0 2 hsz A0_5 l0_5.length c0_5 a1 a2 q1 q3 q4 HC.out
 have HR1 := Aside0.mk (show Kd.C k53 w A0_5 y1.length y1 by rw [hy1]; exact Kd.C_take HR.out (by omega))
 have hm := Kd.C_mid (lo := a1.toNat) (hi := a2.toNat) (c := c0_5) HR.out (by omega) (by omega) HC.out
 rw [hy] at hm
 rw [← hl1] at hcut1
 obtain ⟨A2, hA2⟩ : ∃ A2, A2 = (if c0_5 = a1.toNat then A0_5 else (A0_5 : Option Addr).map (·.add (a1.toNat * 2))) := ⟨_, rfl⟩
 rw [← hl2, ← hA2] at hcut2
 have HR2 := Aside0.mk (show Kd.C k53 w A2 y.length y by rw [hA2]; exact hm)
 have HY1 := Aside0.mk (show y1.length ≤ c0_5 by have := HC.out; omega)
 have HY2 := Aside0.mk (show y.length ≤ 5864062014804 by simp only [List.length_nil] at q5; omega)
 have HC1 := Aside0.mk C1
 have HC2 := Aside0.mk C2
 have HP1 := Aside0.mk P1
 have HP2 := Aside0.mk P2
 have HS1 := Aside0.mk S1
 have HS2 := Aside0.mk S2
 clear hm C1 C2 P1 P2 S1 S2 q5 hl1 hl2 hA2 hy hy1 hsz hi0
 go_enter Tryz.func65, Tryz.ntmps65
 go_upto_region 1 with (fail)
 have HX := Aside0.mk (show CutIn w w.heap.size (w.heap.size + 1) #[.int .i64 a0_0, .int .i64 a0_1, .int .i64 a0_2, .int .i64 a0_3, .string a0_4, .slice A0_5 l0_5.length c0_5] ((w.alloc (Obj.cells #[Value.int IntKind.i64 a0_0, Value.int IntKind.i64 a0_1, Value.int IntKind.i64 a0_2, Value.int IntKind.i64 a0_3, Value.string a0_4, Value.slice A0_5 l0_5.length c0_5] 29)).alloc (Obj.cells #[Value.int IntKind.i64 0, Value.int IntKind.i64 0, Value.int IntKind.i64 0, Value.int IntKind.i64 0, Value.string { data := #[] }, Value.slice none 0 0] 29)) from
  ⟨below_alloc (below_alloc (Below.refl _ _) _) _, blk_alloc (blk_new w _) _, at_blk2 (by simp), Nat.le_refl _, by omega⟩)
 generalize (w.alloc (Obj.cells #[Value.int IntKind.i64 a0_0, Value.int IntKind.i64 a0_1, Value.int IntKind.i64 a0_2, Value.int IntKind.i64 a0_3, Value.string a0_4, Value.slice A0_5 l0_5.length c0_5] 29)).alloc (Obj.cells #[Value.int IntKind.i64 0, Value.int IntKind.i64 0, Value.int IntKind.i64 0, Value.int IntKind.i64 0, Value.string { data := #[] }, Value.slice none 0 0] 29) = W1 at HX ⊢
 generalize w.heap.size + 1 = g6 at HX ⊢
 generalize hg3 : w.heap.size = g3 at HX ⊢
 have k0 := (blk_cell HX.out.b3 0).trans rfl
 have k1 := (blk_cell HX.out.b3 1).trans rfl
 have k2 := (blk_cell HX.out.b3 2).trans rfl
 have k3 := (blk_cell HX.out.b3 3).trans rfl
 have k4 := (blk_cell HX.out.b3 4).trans rfl
 have k5 := (blk_cell HX.out.b3 5).trans rfl
 go_upto_region 2 with (go_at_call 43; (with_reducible refine (selvageref10_Counts.calls k _ _ y1 n1 m1 _ ?s1 HY1.out HC1.out).mono ?_); (case s1 => exact Kd.C_below HR1.out (hg3 ▸ HX.out.below)); rintro e w2 ⟨rfl, hb⟩; have HX2 := Aside0.mk (HX.out.then hb); clear hb HX k0 k1 k2 k3 k4 k5; have HX := HX2; clear HX2)
 have k0 := (blk_cell HX.out.b3 0).trans rfl
 have k1 := (blk_cell HX.out.b3 1).trans rfl
 have k2 := (blk_cell HX.out.b3 2).trans rfl
 have k3 := (blk_cell HX.out.b3 3).trans rfl
 go_upto_region 3 with (go_at_call 47; (with_reducible refine (selvageref10_Place.calls _ _ t1 _ HP1.out).mono ?_); rintro e w3 ⟨rfl, hb⟩; have HX2 := Aside0.mk (HX.out.then hb.below); clear hb HX k0 k1 k2 k3; have HX := HX2; clear HX2)
 have k0 := (blk_cell HX.out.b3 0).trans rfl
 have k1 := (blk_cell HX.out.b3 1).trans rfl
 have k2 := (blk_cell HX.out.b3 2).trans rfl
 have k3 := (blk_cell HX.out.b3 3).trans rfl
 go_upto_region 4 with (go_at_call 47; (with_reducible refine (selvageref10_Place.calls _ _ t2 _ HP2.out).mono ?_); rintro e w4 ⟨rfl, hb⟩; have HX2 := Aside0.mk (HX.out.then hb.below); clear hb HX k0 k1 k2 k3; have HX := HX2; clear HX2)
 have k5 := (blk_cell HX.out.b3 5).trans rfl
 go_upto_region 6 with ((with_reducible refine gate_builtin (b := .append) (xs := #[.tmp 34, .tmp 39]) rfl ?_); at_builtin; refine Kd.R_append_rows k53 (w0 := w) w.heap.size rfl (.tmp 34) (.tmp 39) 27 53 (.agg #[(.int .i64 0), (.string ⟨#[]⟩)]) 24 rfl Tryz.underlying27 info53 rfl (by decide) (by omega) (.slice none 0 0) ([] : List S53) y _ _ _ (fun _ => True) (fun _ => False) rfl rfl ?aO ?aR (fun _ _ h => h) (fun _ h => h.elim) (fun _ _ => trivial) ?aB ?aS ?aL ?_; (case aO => exact Kd.R_nil _ _ _ _ _); (case aR => exact Kd.C_below HR2.out (hg3 ▸ HX.out.below)); (case aB => exact hg3 ▸ HX.out.below); (case aS => exact (hg3 ▸ HX.out.below : Below w.heap.size w _).size); (case aL => have := HY2.out; simp only [List.length_nil]; omega); intro v5 w5 ho hb hg hat; rw [List.nil_append] at ho; obtain ⟨A5, c5, rfl⟩ := Kd.R_slice ho; have HO := Aside0.mk ho; have HX2 := Aside0.mk (show CutIn w g3 g6 #[.int .i64 a0_0, .int .i64 a0_1, .int .i64 a0_2, .int .i64 a0_3, .string a0_4, .slice A0_5 l0_5.length c0_5] w5 from ⟨hb, blk_grown HX.out.b3 hg (by simp [Value.ownBlock]), blk_grown HX.out.b6 hg (by simp [Value.ownBlock]), HX.out.l3, HX.out.l6⟩); clear ho hb hg hat k5 HX; have HX := HX2; clear HX2)
 go_upto_region 7 with (go_at_call 43; (with_reducible refine (selvageref10_Counts.calls k _ _ y n2 m2 _ ?s1 ?s2 HC2.out).mono ?_); (case s1 => exact (Kd.R_reads' HO.out).2.2); (case s2 => exact (Kd.R_reads' HO.out).2.1); rintro e w6 ⟨rfl, hb⟩; have HX2 := Aside0.mk (HX.out.then hb); have HO2 := Aside0.mk (Kd.R_below HO.out hb); clear hb HX HO; have HX := HX2; have HO := HO2; clear HX2 HO2)
 go_wp2_with (first | (go_at_call 80; (with_reducible refine (selvageref10_stated.calls _ _ t3 _ HS1.out).mono ?_); rintro e w7 ⟨rfl, hb⟩; have HX2 := Aside0.mk (HX.out.then hb.below); have HO2 := Aside0.mk (Kd.R_below HO.out hb.below); clear hb HX HO; have HX := HX2; have HO := HO2; clear HX2 HO2 HS1) | (go_at_call 80; (with_reducible refine (selvageref10_stated.calls _ _ t4 _ HS2.out).mono ?_); rintro e w8 ⟨rfl, hb⟩; have HX2 := Aside0.mk (HX.out.then hb.below); have HO2 := Aside0.mk (Kd.R_below HO.out hb.below); clear hb HX HO; have HX := HX2; have HO := HO2; clear HX2 HO2; have d0 := (blk_cell HX.out.b6 0).trans rfl; have y0 := blk_frozen HX.out.b6 0; have d1 := (blk_cell HX.out.b6 1).trans rfl; have y1 := blk_frozen HX.out.b6 1; have d2 := (blk_cell HX.out.b6 2).trans rfl; have y2 := blk_frozen HX.out.b6 2; have d3 := (blk_cell HX.out.b6 3).trans rfl; have y3 := blk_frozen HX.out.b6 3; have d4 := (blk_cell HX.out.b6 4).trans rfl; have y4 := blk_frozen HX.out.b6 4; have d5 := (blk_cell HX.out.b6 5).trans rfl; have y5 := blk_frozen HX.out.b6 5))
 refine bodyPost_ret (results_cell_row rfl _ _ g6 29 #[.int .i64 t3, .int .i64 n2, .int .i64 t4, .int .i64 m2, .string ⟨#[]⟩, .slice A5 y.length c5] (0, 0) _ rfl ((blk_set (blk_set (blk_set (blk_set (blk_set (blk_set HX.out.b6 0 _) 1 _) 2 _) 3 _) 4 _) 5 _).trans rfl) Tryz.underlying29 rfl (by kernel_rfl)) rfl ?_
 refine ⟨_, rfl, ?_, ?_⟩
 · rw [hg3]
   have E6 := HX.out.b6
   exact Kd.R_set (Kd.R_set (Kd.R_set (Kd.R_set (Kd.R_set (Kd.R_set (hg3 ▸ HO.out) E6 (by decide) 0 _) (blk_set E6 0 _) (by decide) 1 _) (blk_set (blk_set E6 0 _) 1 _) (by decide) 2 _) (blk_set (blk_set (blk_set E6 0 _) 1 _) 2 _) (by decide) 3 _) (blk_set (blk_set (blk_set (blk_set E6 0 _) 1 _) 2 _) 3 _) (by decide) 4 _) (blk_set (blk_set (blk_set (blk_set (blk_set E6 0 _) 1 _) 2 _) 3 _) 4 _) (by decide) 5 _
 · exact hg3 ▸ below_set (below_set (below_set (below_set (below_set (below_set HX.out.below HX.out.l6) HX.out.l6) HX.out.l6) HX.out.l6) HX.out.l6) HX.out.l6
mutual
def selvageref10_Narrow.j0 : Nat → Int → Bool → Int → Int → Int → Int → ByteArray → List (S53) → Option ((List (S29)) × Int)
 | 0, _, _, _, _, _, _, _, _ => none
 | k + 1, x1, x15, x588000, x588001, x588002, x588003, x588004, x588005 => if x15 = true then (some (([] : List (S29)), 1)) else ((selvageref10_Valid.f k x588000 x588001 x588002 x588003 x588004 x588005).bind fun t588 => (if t588 = 0 then (selvageref10_Narrow.l0 k x1 ([] : List (S29)) (-1) 0 0 x588000 x588001 x588002 x588003 x588004 x588005) else (some (([] : List (S29)), 100))))
def selvageref10_Narrow.l0 : Nat → Int → List (S29) → Int → Int → Int → Int → Int → Int → Int → ByteArray → List (S53) → Option ((List (S29)) × Int)
 | 0, _, _, _, _, _, _, _, _, _, _, _ => none
 | k + 1, x1, x6, x7, x8, x9, x588000, x588001, x588002, x588003, x588004, x588005 => if x9 < (x588005.length : Int) then (if 0 ≤ x9 then (if ((rd_T53 x588005 x9).f0) = 1 then (selvageref10_Narrow.l0 k x1 x6 x7 x8 (wrap64 (x9 + 1)) x588000 x588001 x588002 x588003 x588004 x588005) else (if x7 ≥ 0 then (selvageref10_Narrow.j2 k x1 x6 x7 x8 x9 (decide ((wrap64 (x9 - x8)) > (wrap64 (2 * x1)))) x588000 x588001 x588002 x588003 x588004 x588005) else (selvageref10_Narrow.j2 k x1 x6 x7 x8 x9 false x588000 x588001 x588002 x588003 x588004 x588005))) else (none)) else ((selvageref10_cut.f k x588000 x588001 x588002 x588003 x588004 x588005 x7 (wrap64 (x8 + (mn x1 (wrap64 ((x588005.length : Int) - x8)))))).bind fun bt589 => (if x6.length < 1954687338268 then ((some (x6 ++ [(⟨bt589.1, bt589.2.1, bt589.2.2.1, bt589.2.2.2.1, bt589.2.2.2.2.1, bt589.2.2.2.2.2⟩ : S29)] : List (S29))).bind fun y597 => (if 0 < (y597.length : Int) then (some ((y597.set (0 : Int).toNat (⟨(rd_T29 y597 0).f0, (rd_T29 y597 0).f1, (rd_T29 y597 0).f2, (rd_T29 y597 0).f3, x588004, (rd_T29 y597 0).f5⟩ : S29)), 0)) else (none))) else (none)))
def selvageref10_Narrow.j2 : Nat → Int → List (S29) → Int → Int → Int → Bool → Int → Int → Int → Int → ByteArray → List (S53) → Option ((List (S29)) × Int)
 | 0, _, _, _, _, _, _, _, _, _, _, _, _ => none
 | k + 1, x1, x6, x7, x8, x9, x42, x588000, x588001, x588002, x588003, x588004, x588005 => if x42 = true then ((selvageref10_cut.f k x588000 x588001 x588002 x588003 x588004 x588005 x7 (wrap64 (x8 + x1))).bind fun bt602 => (if x6.length < 1954687338268 then ((some (x6 ++ [(⟨bt602.1, bt602.2.1, bt602.2.2.1, bt602.2.2.2.1, bt602.2.2.2.2.1, bt602.2.2.2.2.2⟩ : S29)] : List (S29))).bind fun y610 => (if (-1) < 0 then (selvageref10_Narrow.l0 k x1 y610 (wrap64 (x9 - (mn x1 x9))) (wrap64 (x9 + 1)) (wrap64 (x9 + 1)) x588000 x588001 x588002 x588003 x588004 x588005) else (selvageref10_Narrow.l0 k x1 y610 (-1) (wrap64 (x9 + 1)) (wrap64 (x9 + 1)) x588000 x588001 x588002 x588003 x588004 x588005))) else (none))) else (if x7 < 0 then (selvageref10_Narrow.l0 k x1 x6 (wrap64 (x9 - (mn x1 x9))) (wrap64 (x9 + 1)) (wrap64 (x9 + 1)) x588000 x588001 x588002 x588003 x588004 x588005) else (selvageref10_Narrow.l0 k x1 x6 x7 (wrap64 (x9 + 1)) (wrap64 (x9 + 1)) x588000 x588001 x588002 x588003 x588004 x588005))
end
def selvageref10_Narrow.f (k : Nat) (a0_0 : Int) (a0_1 : Int) (a0_2 : Int) (a0_3 : Int) (a0_4 : ByteArray) (l0_5 : List (S53)) (a1 : Int) : Option ((List (S29)) × Int) := if a1 < 0 then (selvageref10_Narrow.j0 k a1 true a0_0 a0_1 a0_2 a0_3 a0_4 l0_5) else (selvageref10_Narrow.j0 k a1 (decide (a1 > 2147483647)) a0_0 a0_1 a0_2 a0_3 a0_4 l0_5)
set_option maxHeartbeats 80000000 in
set_option maxRecDepth 100000 in
theorem selvageref10_Narrow.calls (k : Nat) (a0_0 : Int) (a0_1 : Int) (a0_2 : Int) (a0_3 : Int) (a0_4 : ByteArray) (A0_5 : Option Addr) (c0_5 : Nat) (l0_5 : List (S53)) (a1 : Int) (r1 : List (S29)) (r2 : Int) (w : World) (hr0_5 : Kd.C k53 w A0_5 l0_5.length l0_5) (hc0_5 : l0_5.length ≤ c0_5) (h : selvageref10_Narrow.f k a0_0 a0_1 a0_2 a0_3 a0_4 l0_5 a1 = some (r1, r2)) :
  Calls Tryz.prog 27 #[.agg #[.int .i64 a0_0, .int .i64 a0_1, .int .i64 a0_2, .int .i64 a0_3, .string a0_4, .slice A0_5 l0_5.length c0_5], .int .i64 a1] w fun e w' => ∃ v0_ : Value, e = .returned (.tuple #[v0_, .int .i64 r2]) ∧ Kd.S k29 29 w' w.heap.size (fun _ => True) v0_ r1 ∧ Below w.heap.size w w' := by
 have hu29 := Tryz.underlying29
 have HR0_5 := Aside0.mk hr0_5
 have HC0_5 := Aside0.mk hc0_5
 clear hr0_5 hc0_5
 have HB := Aside0.mk (Below.refl w.heap.size w)
 have H := h
 clear h
 unfold selvageref10_Narrow.f at H
 have HC3 := Aside0.mk H
 clear H
 go_enter Tryz.func27, Tryz.ntmps27
 try simp only [List.append_eq, List.cons_append, List.nil_append]
 go_upto_region 1 with (first | ((with_reducible refine gate_dst (N := 2) rfl ?_); refine boxEv (N := 2) #[.int .i64 a0_0, .int .i64 a0_1, .int .i64 a0_2, .int .i64 a0_3, .string a0_4, .slice A0_5 l0_5.length c0_5] 29 ?_; intro gb587 hg w4 hbox hb; have BK587 := Aside0.mk hbox; have GW587 := gwN HB hg; have GE587 := GW587; replace HB := hbD HB hb; clear hb hbox hg))
 (try simp only [Act.put, List.setIfInBounds_toArray, List.set_cons_zero, List.set_cons_succ])
 go_cut [15] (fun v15 wc => ∃ (kq : Nat) (x15_2 : Bool), v15 = .bool x15_2 ∧ Aside0 (selvageref10_Narrow.j0 kq a1 x15_2 a0_0 a0_1 a0_2 a0_3 a0_4 l0_5 = some (r1, r2)) ∧ Aside0 (kq ≤ k) ∧ Aside0 (wc.heap[gb587]? = some (.cells #[.int .i64 a0_0, .int .i64 a0_1, .int .i64 a0_2, .int .i64 a0_3, .string a0_4, (.slice A0_5 l0_5.length c0_5)] 29 (0, 0))) ∧ Aside0 (Below w.heap.size w wc))
 case first =>
  have H := HC3.out
  clear HC3
  replace H := itL H
  rcases H with ⟨-, c5b0, H⟩ | ⟨-, c5b0, H⟩
  ·(first | rw [c5b0] | (simp only [i64_w, i32_w]; rw [c5b0]) | skip)
   have H' := Aside0.mk H
   clear H
   go_wp2
   go_meet
   case rel => exact ⟨_, (true), eqNow, H', ⟨by first | omega | exact Nat.le_refl _⟩, ⟨bkUp BK587.out⟩, ⟨belPut⟩⟩
  (first | rw [c5b0] | (simp only [i64_w, i32_w]; rw [c5b0]) | skip)
  have H' := Aside0.mk H
  clear H
  go_wp2
  go_meet
  case rel => exact ⟨_, (decide (a1 > 2147483647)), eqNow, H', ⟨by first | omega | exact Nat.le_refl _⟩, ⟨bkUp BK587.out⟩, ⟨belPut⟩⟩
 case rest =>
  clear HC3
  obtain ⟨kq, x15_2, rfl, HA, HJ2, BK587, HB⟩ := hcut
  cases kq with
  | zero => exact absurd HA.out (by simp [selvageref10_Narrow.j0])
  | succ kj2 =>
   have H := HA.out
   clear HA
   simp only [selvageref10_Narrow.j0] at H
   replace H := itB H
   rcases H with ⟨rfl, H⟩ | ⟨rfl, H⟩
   ·simp only [Option.some.injEq, Prod.mk.injEq] at H
    obtain ⟨rfl, rfl⟩ := H
    go_wp2
    go_ret2
    exact ⟨_, eqEnd, kNil, belPut⟩
   replace H := bdS H
   obtain ⟨t588, A7, H⟩ := H
   replace H := itEn H
   rcases H with ⟨c8, c8b0, c8b1, H⟩ | ⟨-, c8b0, c8b1, H⟩
   ·simp only [Option.some.injEq, Prod.mk.injEq] at H
    obtain ⟨rfl, rfl⟩ := H
    have hcz45_0 := bkc (v := .int .i64 a0_0) BK587.out 0 rfl
    have hcz45_1 := bkc (v := .int .i64 a0_1) BK587.out 1 rfl
    have hcz45_2 := bkc (v := .int .i64 a0_2) BK587.out 2 rfl
    have hcz45_3 := bkc (v := .int .i64 a0_3) BK587.out 3 rfl
    have hcz45_4 := bkc (v := .string a0_4) BK587.out 4 rfl
    have hcz45_5 := bkc (v := .slice A0_5 l0_5.length c0_5) BK587.out 5 rfl
    have hfz45_0 := blk_frozen BK587.out 0
    have hfz45_1 := blk_frozen BK587.out 1
    have hfz45_2 := blk_frozen BK587.out 2
    have hfz45_3 := blk_frozen BK587.out 3
    have hfz45_4 := blk_frozen BK587.out 4
    have hfz45_5 := blk_frozen BK587.out 5
    go_wp2_with (first | ((with_reducible refine gate_callee (f := 13) rfl ?_); refine goL (some 17) Tryz.func13 #[.agg #[.int .i64 a0_0, .int .i64 a0_1, .int .i64 a0_2, .int .i64 a0_3, .string a0_4, .slice A0_5 l0_5.length c0_5]] ?_; (with_reducible refine (selvageref10_Valid.calls kj2 a0_0 a0_1 a0_2 a0_3 a0_4 _ _ l0_5 t588 _ ?side1 ?side2 A7.out).mono ?_); (case side1 => exact kcU HR0_5 HB); (case side2 => exact HC0_5.out); rintro e w46 ⟨rfl, hb⟩; refine ⟨_, rfl, ?_⟩; replace BK587 := bkD BK587 hb; replace HB := hbD HB hb; clear hb))
    go_ret2
    exact ⟨_, eqEnd, kNil, belPut⟩
   have H' := Aside0.mk H
   clear H
   have hcz9_0 := bkc (v := .int .i64 a0_0) BK587.out 0 rfl
   have hcz9_1 := bkc (v := .int .i64 a0_1) BK587.out 1 rfl
   have hcz9_2 := bkc (v := .int .i64 a0_2) BK587.out 2 rfl
   have hcz9_3 := bkc (v := .int .i64 a0_3) BK587.out 3 rfl
   have hcz9_4 := bkc (v := .string a0_4) BK587.out 4 rfl
   have hcz9_5 := bkc (v := .slice A0_5 l0_5.length c0_5) BK587.out 5 rfl
   have hfz9_0 := blk_frozen BK587.out 0
   have hfz9_1 := blk_frozen BK587.out 1
   have hfz9_2 := blk_frozen BK587.out 2
   have hfz9_3 := blk_frozen BK587.out 3
   have hfz9_4 := blk_frozen BK587.out 4
   have hfz9_5 := blk_frozen BK587.out 5
   go_wp2_with (first | ((with_reducible refine gate_callee (f := 13) rfl ?_); refine goL (some 17) Tryz.func13 #[.agg #[.int .i64 a0_0, .int .i64 a0_1, .int .i64 a0_2, .int .i64 a0_3, .string a0_4, .slice A0_5 l0_5.length c0_5]] ?_; (with_reducible refine (selvageref10_Valid.calls kj2 a0_0 a0_1 a0_2 a0_3 a0_4 _ _ l0_5 t588 _ ?side1 ?side2 A7.out).mono ?_); (case side1 => exact kcU HR0_5 HB); (case side2 => exact HC0_5.out); rintro e w10 ⟨rfl, hb⟩; refine ⟨_, rfl, ?_⟩; replace BK587 := bkD BK587 hb; replace HB := hbD HB hb; clear hb))
   go_loopg [6, 7, 8, 9] kj2 (fun kq v6 v7 v8 v9 w' => ∃ (x6_2 : List (S29)) (x7_2 : Int) (x8_2 : Int) (x9_2 : Int), v7 = .int .i64 x7_2 ∧ v8 = .int .i64 x8_2 ∧ v9 = .int .i64 x9_2 ∧ Aside0 (selvageref10_Narrow.l0 kq a1 x6_2 x7_2 x8_2 x9_2 a0_0 a0_1 a0_2 a0_3 a0_4 l0_5 = some (r1, r2)) ∧ Aside0 (kq ≤ kj2) ∧ Aside0 (Kd.S k29 29 w' w.heap.size (fun k_ => k_ ≠ gb587) v6 x6_2) ∧ Aside0 (w'.heap[gb587]? = some (.cells #[.int .i64 a0_0, .int .i64 a0_1, .int .i64 a0_2, .int .i64 a0_3, .string a0_4, (.slice A0_5 l0_5.length c0_5)] 29 (0, 0))) ∧ Aside0 (Below w.heap.size w w'))
   case atStart => exact ⟨(([] : List (S29))), ((-1)), (0), (0), eqNow, eqNow, eqNow, H', ⟨Nat.le_refl _⟩, ⟨kNil⟩, ⟨bkUp BK587.out⟩, ⟨belPut⟩⟩
   case round =>
    clear H'
    try clear c6
    try clear c8
    try clear c8b0
    try clear c8b1
    try clear hcz9_0 hcz9_1 hcz9_2 hcz9_3 hcz9_4 hcz9_5 hfz9_0 hfz9_1 hfz9_2 hfz9_3 hfz9_4 hfz9_5
    obtain ⟨x6_2, x7_2, x8_2, x9_2, rfl, rfl, rfl, HA, HK2, HO_6, BK587, HB⟩ := hrel
    cases gk with
    | zero => exact absurd HA.out (by simp [selvageref10_Narrow.l0])
    | succ k2 =>
     have H := HA.out
     clear HA
     simp only [selvageref10_Narrow.l0] at H
     replace H := itLn H
     rcases H with ⟨-, c11b0, H⟩ | ⟨-, c11b0, H⟩
     ·obtain ⟨ji33, hji33⟩ : ∃ j_ : Int, (mn a1 (wrap64 ((l0_5.length : Int) - x8_2))) = j_ := ⟨_, rfl⟩
      first | rw [hji33] at H | simp only [hji33] at H
      have hji33_ : (if (wrap64 ((l0_5.length : Int) - x8_2)) < a1 then (wrap64 ((l0_5.length : Int) - x8_2)) else a1) = ji33 := hji33
      replace H := bdS H
      obtain ⟨⟨t589, t590, t591, t592, t593, t594⟩, A34, H⟩ := H
      replace H : (if x6_2.length < 1954687338268 then ((some (x6_2 ++ [(⟨t589, t590, t591, t592, t593, t594⟩ : S29)] : List (S29))).bind fun y597 => (if 0 < (y597.length : Int) then (some ((y597.set (0 : Int).toNat (⟨(rd_T29 y597 0).f0, (rd_T29 y597 0).f1, (rd_T29 y597 0).f2, (rd_T29 y597 0).f3, a0_4, (rd_T29 y597 0).f5⟩ : S29)), 0)) else (none))) else (none)) = some (r1, r2) := H
      replace H := itLn H
      rcases H with ⟨_, _, H⟩ | ⟨c35, -, H⟩
      ·cases H
      have LMc35 := Aside0.mk c35
      clear c35
      obtain ⟨y597, hy597⟩ : ∃ y_ : List (S29), y_ = (x6_2 ++ [(⟨t589, t590, t591, t592, t593, t594⟩ : S29)]) := ⟨_, rfl⟩
      replace H : (if 0 < (y597.length : Int) then (some ((y597.set (0 : Int).toNat (⟨(rd_T29 y597 0).f0, (rd_T29 y597 0).f1, (rd_T29 y597 0).f2, (rd_T29 y597 0).f3, a0_4, (rd_T29 y597 0).f5⟩ : S29)), 0)) else (none)) = some (r1, r2) := by first | (rw [hy597]; with_reducible exact H) | (have H2_ := (Option.bind_some _ _).symm.trans H; rw [hy597]; with_reducible exact H2_) | (have H2_ := (Option.bind_some _ _).symm.trans H; with_reducible exact H2_) | with_reducible exact H | (rw [hy597]; exact H) | exact H
      have Ny597 := Aside0.mk hy597
      clear hy597
      replace H := itLn H
      rcases H with ⟨_, _, H⟩ | ⟨c36, c36b0, H⟩
      ·cases H
      have c36b1 : decide (0 < y597.length) = true := decide_eq_true (by omega)
      clear c36
      obtain ⟨y600, hy600⟩ : ∃ y_ : List (S29), y_ = (y597.set (0 : Int).toNat (⟨(rd_T29 y597 0).f0, (rd_T29 y597 0).f1, (rd_T29 y597 0).f2, (rd_T29 y597 0).f3, a0_4, (rd_T29 y597 0).f5⟩ : S29)) := ⟨_, rfl⟩
      replace H : (some (y600, 0)) = some (r1, r2) := by first | (rw [hy600]; with_reducible exact H) | (have H2_ := (Option.bind_some _ _).symm.trans H; rw [hy600]; with_reducible exact H2_) | (have H2_ := (Option.bind_some _ _).symm.trans H; with_reducible exact H2_) | with_reducible exact H | (rw [hy600]; exact H) | exact H
      have Ny600 := Aside0.mk hy600
      clear hy600
      simp only [Option.some.injEq, Prod.mk.injEq] at H
      obtain ⟨rfl, rfl⟩ := H
      have hcz38_0 := bkc (v := .int .i64 a0_0) BK587.out 0 rfl
      have hcz38_1 := bkc (v := .int .i64 a0_1) BK587.out 1 rfl
      have hcz38_2 := bkc (v := .int .i64 a0_2) BK587.out 2 rfl
      have hcz38_3 := bkc (v := .int .i64 a0_3) BK587.out 3 rfl
      have hcz38_4 := bkc (v := .string a0_4) BK587.out 4 rfl
      have hcz38_5 := bkc (v := .slice A0_5 l0_5.length c0_5) BK587.out 5 rfl
      have hfz38_0 := blk_frozen BK587.out 0
      have hfz38_1 := blk_frozen BK587.out 1
      have hfz38_2 := blk_frozen BK587.out 2
      have hfz38_3 := blk_frozen BK587.out 3
      have hfz38_4 := blk_frozen BK587.out 4
      have hfz38_5 := blk_frozen BK587.out 5
      go_wp2_with (first | ((with_reducible refine gate_callee (f := 65) rfl ?_); refine goesL_ (some 73) rfl rfl Tryz.func65 (by kernel_rfl) rfl #[.agg #[.int .i64 a0_0, .int .i64 a0_1, .int .i64 a0_2, .int .i64 a0_3, .string a0_4, .slice A0_5 l0_5.length c0_5], .int .i64 x7_2, .int .i64 (wrap64 (x8_2 + (ji33)))] rfl (by (try simp only [List.map_toArray, List.map_cons, List.map_nil]); first | done | (simp only [hji33]; rfl) | rfl | (simp only [List.length_drop, List.length_take]; rfl)) ?_; (with_reducible refine (selvageref10_cut.calls k2 a0_0 a0_1 a0_2 a0_3 a0_4 _ _ l0_5 x7_2 (wrap64 (x8_2 + (ji33))) t589 t590 t591 t592 t593 t594 _ ?side1 ?side2 A34.out).mono ?_); (case side1 => exact kcU HR0_5 HB); (case side2 => exact HC0_5.out); rintro e w39 ⟨v595, rfl, ho0, hb⟩; refine ⟨_, rfl, ?_⟩; replace HO_6 := Aside0.mk (Kd.S_elder' (by (with_reducible repeat (first | apply Kd.S_alloc | apply Kd.S_drewN | apply Kd.S_drew)); exact HO_6.out) (Kd.R_base ho0) hb); have HO596 := Aside0.mk (Kd.R_lower ho0 (below_size (belPut))); replace BK587 := bkD BK587 hb; replace HB := hbD HB hb; clear hb; (try clear ho0); obtain ⟨Ao41, co41, eo41⟩ := Kd.R_slice HO596.out; subst eo41) | ((with_reducible refine gate_builtin (b := .append) (xs := #[.tmp 61, .tmp 74]) rfl ?_); at_builtin; refine Kd.S_append k29 (w0 := w) w.heap.size rfl (.tmp 61) (.tmp 74) 22 29 (.agg #[(.int .i64 0), (.int .i64 0), (.int .i64 0), (.int .i64 0), (.string ⟨#[]⟩), (.slice none 0 0)]) 72 rfl Tryz.underlying22 info29 rfl (by decide) (by omega) u6 x6_2 (⟨t589, t590, t591, t592, t593, t594⟩ : S29) [.int .i64 t589, .int .i64 t590, .int .i64 t591, .int .i64 t592, .string t593, .slice Ao41 t594.length co41] (fun k_ => k_ ≠ gb587) (fun k_ => some k_ = (.slice Ao41 t594.length co41 : Value).ownBlock) rfl rfl ?aP (fun k_ hk_ => ((Kd.R_mono (ok' := fun k_ => ((fun k_ => k_ ≠ gb587)) k_ ∧ some k_ ≠ (u6 : Value).ownBlock) (Kd.R_types (Kd.R_apart' (HO596.out) (Kd.S_typed HO_6.out) (by decide)) BK587.out (by decide)) (fun k_ hk => ⟨hk.2, hk.1.2⟩))).1 k_ hk_.symm) ?aF ?aO ?aB ?aS ?aL ?_; (case aP => exact k29_mkM _ _ _ (⟨t589, t590, t591, t592, t593, t594⟩ : S29) (Kd.R_mono (Kd.R_tight rfl (Kd.R_mono (ok' := fun k_ => ((fun k_ => k_ ≠ gb587)) k_ ∧ some k_ ≠ (u6 : Value).ownBlock) (Kd.R_types (Kd.R_apart' (HO596.out) (Kd.S_typed HO_6.out) (by decide)) BK587.out (by decide)) (fun k_ hk => ⟨hk.2, hk.1.2⟩))) (fun _ h_ => h_))); (case aB => exact (belPut)); (case aF => exact (fun k_ hk => Kd.freshB (g := gb587) (o := .cells #[.int .i64 a0_0, .int .i64 a0_1, .int .i64 a0_2, .int .i64 a0_3, .string a0_4, .slice A0_5 l0_5.length c0_5] 29 (0, 0)) (bkUp BK587.out) k_ hk)); (case aO => exact (by (with_reducible repeat (first | apply Kd.S_alloc | apply Kd.S_drewN | apply Kd.S_drew)); exact Kd.S_mono HO_6.out (fun k_ hk => ⟨hk.1, fun e_ => hk.2 e_⟩))); (case aS => exact (below_size (belPut))); (case aL => have := LMc35.out; omega); intro v598 w40 ho hb hg hat; rw [← Ny597.out] at ho; replace BK587 := Aside0.mk (blk_grown (g := gb587) (o := .cells #[.int .i64 a0_0, .int .i64 a0_1, .int .i64 a0_2, .int .i64 a0_3, .string a0_4, .slice A0_5 l0_5.length c0_5] 29 (0, 0)) (bkUp BK587.out) hg (Kd.S_away HO_6.out (fun _ hk => hk.1))); replace HB := Aside0.mk hb; have HO599 := Aside0.mk (ho); clear HO_6 HO596; clear ho hb hg hat; obtain ⟨hcz42_0, hcz42_1, hcz42_2, hcz42_3, hcz42_4, hcz42_5, hfz42_0, hfz42_1, hfz42_2, hfz42_3, hfz42_4, hfz42_5⟩ := bcf6 (W := w40) BK587; have p37 : 0 ≤ (0 : Int) := (by omega); have q37 : (0 : Int) < ((y597.length : Int) : Int) := ofDec; have qi37 : (0 < y597.length) = True := eq_true (by omega); obtain ⟨go37, co37, eo37, gb37, gl37, cl37, HG37⟩ := Kd.S_form HO599.out (by omega); (first | cases eo37 | (injection eo37 with ea_ en_ ec_; (first | subst ea_ | (injection ea_ with ea_; subst ea_)); subst ec_; clear en_)); have GB37 := Aside0.mk gb37; have GG37 := Aside0.mk HG37; clear gb37 gl37 HG37; obtain ⟨_, ce37, hcl37, hM37, hcc37, hfr37, _, _⟩ := Kd.S_elem HO599.out z29 (0 : Int) p37 q37; obtain ⟨ve37_5, rfl, ge37_5⟩ := k29_openM hM37; have hx37_0 : w40.cell? ⟨go37, (0 : Int).toNat * 6, none⟩ = some (.int .i64 ((rd_T29 y597 0).f0)) := hcc37 0 _ rfl; have hx37_1 : w40.cell? ⟨go37, (0 : Int).toNat * 6 + 1, none⟩ = some (.int .i64 ((rd_T29 y597 0).f1)) := hcc37 1 _ rfl; have hx37_2 : w40.cell? ⟨go37, (0 : Int).toNat * 6 + 2, none⟩ = some (.int .i64 ((rd_T29 y597 0).f2)) := hcc37 2 _ rfl; have hx37_3 : w40.cell? ⟨go37, (0 : Int).toNat * 6 + 3, none⟩ = some (.int .i64 ((rd_T29 y597 0).f3)) := hcc37 3 _ rfl; have hx37_4 : w40.cell? ⟨go37, (0 : Int).toNat * 6 + 4, none⟩ = some (.string ((rd_T29 y597 0).f4)) := hcc37 4 _ rfl; have hx37_5 : w40.cell? ⟨go37, (0 : Int).toNat * 6 + 5, none⟩ = some (ve37_5) := hcc37 5 _ rfl; have hf37_0 : w40.frozen? ⟨go37, (0 : Int).toNat * 6, none⟩ = false := hfr37 0; have hf37_1 : w40.frozen? ⟨go37, (0 : Int).toNat * 6 + 1, none⟩ = false := hfr37 1; have hf37_2 : w40.frozen? ⟨go37, (0 : Int).toNat * 6 + 2, none⟩ = false := hfr37 2; have hf37_3 : w40.frozen? ⟨go37, (0 : Int).toNat * 6 + 3, none⟩ = false := hfr37 3; have hf37_4 : w40.frozen? ⟨go37, (0 : Int).toNat * 6 + 4, none⟩ = false := hfr37 4; have hf37_5 : w40.frozen? ⟨go37, (0 : Int).toNat * 6 + 5, none⟩ = false := hfr37 5; clear hcl37 hcc37 hfr37 hM37; (try rw [show ((0 : Int)).toNat = 0 from rfl] at hx37_0); (try simp only [Nat.reduceMul, Nat.zero_mul, Nat.zero_add, Nat.reduceAdd] at hx37_0); (try rw [show ((0 : Int)).toNat = 0 from rfl] at hf37_0); (try simp only [Nat.reduceMul, Nat.zero_mul, Nat.zero_add, Nat.reduceAdd] at hf37_0); (try rw [show ((0 : Int)).toNat = 0 from rfl] at hx37_1); (try simp only [Nat.reduceMul, Nat.zero_mul, Nat.zero_add, Nat.reduceAdd] at hx37_1); (try rw [show ((0 : Int)).toNat = 0 from rfl] at hf37_1); (try simp only [Nat.reduceMul, Nat.zero_mul, Nat.zero_add, Nat.reduceAdd] at hf37_1); (try rw [show ((0 : Int)).toNat = 0 from rfl] at hx37_2); (try simp only [Nat.reduceMul, Nat.zero_mul, Nat.zero_add, Nat.reduceAdd] at hx37_2); (try rw [show ((0 : Int)).toNat = 0 from rfl] at hf37_2); (try simp only [Nat.reduceMul, Nat.zero_mul, Nat.zero_add, Nat.reduceAdd] at hf37_2); (try rw [show ((0 : Int)).toNat = 0 from rfl] at hx37_3); (try simp only [Nat.reduceMul, Nat.zero_mul, Nat.zero_add, Nat.reduceAdd] at hx37_3); (try rw [show ((0 : Int)).toNat = 0 from rfl] at hf37_3); (try simp only [Nat.reduceMul, Nat.zero_mul, Nat.zero_add, Nat.reduceAdd] at hf37_3); (try rw [show ((0 : Int)).toNat = 0 from rfl] at hx37_4); (try simp only [Nat.reduceMul, Nat.zero_mul, Nat.zero_add, Nat.reduceAdd] at hx37_4); (try rw [show ((0 : Int)).toNat = 0 from rfl] at hf37_4); (try simp only [Nat.reduceMul, Nat.zero_mul, Nat.zero_add, Nat.reduceAdd] at hf37_4); (try rw [show ((0 : Int)).toNat = 0 from rfl] at hx37_5); (try simp only [Nat.reduceMul, Nat.zero_mul, Nat.zero_add, Nat.reduceAdd] at hx37_5); (try rw [show ((0 : Int)).toNat = 0 from rfl] at hf37_5); (try simp only [Nat.reduceMul, Nat.zero_mul, Nat.zero_add, Nat.reduceAdd] at hf37_5); replace p37 := eq_true p37; replace q37 := eq_true q37; have HX43 := Aside0.mk (show Kd.S k29 29 w40 w.heap.size (fun k_ => ((fun k_ => k_ ≠ gb587)) k_ ∧ ¬ ((fun _ => False)) k_) (.slice (some ⟨go37, 0, none⟩) y597.length co37) y597 from (by (with_reducible repeat (first | apply Kd.S_alloc | apply Kd.S_drewN | apply Kd.S_drew)); exact Kd.S_mono HO599.out (fun k_ hk => ⟨hk, fun e_ => e_⟩))); obtain ⟨oki43, ce43, hcl43, hM43, hcc43, hfr43, hoki43, hH43⟩ := Kd.S_elem HX43.out z29 (0 : Int) (by omega) (by have h_ : (0 : Int) < ((y597.length : Int) : Int) := ofDec; first | exact h_ | (have e_ := (Kd.S_reads' HO599.out).1; omega) | simpa using h_); obtain ⟨ve43_5, rfl, ge43_5⟩ := k29_openM hM43; have HP43 := Kd.S_seg hH43 (by omega) (by have h_ : (0 : Int) < ((y597.length : Int) : Int) := ofDec; first | exact h_ | (have e_ := (Kd.S_reads' HO599.out).1; omega) | simpa using h_) (seg := [.string a0_4]) (j := 4) (show 5 ≤ 6 from by decide) (x' := (⟨(rd_T29 y597 0).f0, (rd_T29 y597 0).f1, (rd_T29 y597 0).f2, (rd_T29 y597 0).f3, a0_4, (rd_T29 y597 0).f5⟩ : S29)) (k29_mkM _ _ _ (⟨(rd_T29 y597 0).f0, (rd_T29 y597 0).f1, (rd_T29 y597 0).f2, (rd_T29 y597 0).f3, a0_4, (rd_T29 y597 0).f5⟩ : S29) (Kd.R_mono ge43_5 (fun _ h_ => Or.inl h_))) (fun _ hk => hk) (fun k_ hk_ => hk_.elim); have hx43_4 := hcc43 4 _ rfl; (try simp only [show (k29).sz = 6 from rfl, Nat.mul_one, Nat.add_zero] at hx43_4); (try rw [show ((0 : Int)).toNat = 0 from rfl] at hx43_4); (try simp only [Nat.reduceMul, Nat.zero_mul, Nat.zero_add, Nat.reduceAdd] at hx43_4); have hf43_4 := hfr43 4; (try simp only [show (k29).sz = 6 from rfl, Nat.mul_one, Nat.add_zero] at hf43_4); (try rw [show ((0 : Int)).toNat = 0 from rfl] at hf43_4); (try simp only [Nat.reduceMul, Nat.zero_mul, Nat.zero_add, Nat.reduceAdd] at hf43_4); clear hcl43 hcc43 hfr43 hM43 hoki43 hH43) | ((with_reducible refine gate_store (t := 9) (p := 80) rfl ?_); refine store_event (t := 9) (p := 80) (v := ?vo_w44) (w1 := (w40.setCell ⟨go37, 4, none⟩ (.string a0_4))) ?hg ?ho ?hn ?hr ?_; (case ho => rfl); (case hg => rfl); (case hn => rfl); (case hr => first | (go_simp; done) | (go_simp; rfl)); intro w44 hw; have hg : w40.grownBy w44 (some go37) := (by rw [hw]; exact HP43.2); have hp_ : Kd.S k29 29 w44 w.heap.size (fun k_ => k_ ≠ gb587) (.slice (some ⟨go37, 0, none⟩) y597.length co37) y600 := (by rw [hw, Ny600.out]; exact HP43.1); clear HP43; replace BK587 := Aside0.mk (blk_grown (g := gb587) (o := .cells #[.int .i64 a0_0, .int .i64 a0_1, .int .i64 a0_2, .int .i64 a0_3, .string a0_4, .slice A0_5 l0_5.length c0_5] 29 (0, 0)) (bkUp BK587.out) hg (Kd.S_away HO599.out (fun _ hk => hk))); replace HO599 := Aside0.mk (hp_); replace HB := Aside0.mk ((by rw [hw]; exact below_set (HB.out) GB37.out : Below w.heap.size w w44)); clear hg hw hp_))
      go_ret2
      exact ⟨_, by first | rfl | (simp [errW_none, errW_some] <;> rfl) | (simp only [← hji33]; first | rfl | (simp [errW_none, errW_some] <;> rfl)) | (simp [*, errW_none, errW_some] <;> rfl) | (simp only [i64_w, i32_w, u8_w]; first | rfl | (simp [errW_none, errW_some] <;> rfl)) | (simp only [bne_nil, beq_nil]; first | rfl | (simp <;> rfl)), by (with_reducible repeat (first | apply Kd.S_alloc | apply Kd.S_drewN | apply Kd.S_drew)); exact Kd.S_mono HO599.out (fun _ hk => trivial), belPut⟩
     replace H := itLn H
     rcases H with ⟨_, _, H⟩ | ⟨-, c12b0, H⟩
     ·cases H
     replace H := itE H
     rcases H with ⟨-, c13b0, c13b1, H⟩ | ⟨c13, c13b0, c13b1, H⟩
     ·have H' := Aside0.mk H
      clear H
      have hcz14_0 := bkc (v := .int .i64 a0_0) BK587.out 0 rfl
      have hcz14_1 := bkc (v := .int .i64 a0_1) BK587.out 1 rfl
      have hcz14_2 := bkc (v := .int .i64 a0_2) BK587.out 2 rfl
      have hcz14_3 := bkc (v := .int .i64 a0_3) BK587.out 3 rfl
      have hcz14_4 := bkc (v := .string a0_4) BK587.out 4 rfl
      have hcz14_5 := bkc (v := .slice A0_5 l0_5.length c0_5) BK587.out 5 rfl
      have hfz14_0 := blk_frozen BK587.out 0
      have hfz14_1 := blk_frozen BK587.out 1
      have hfz14_2 := blk_frozen BK587.out 2
      have hfz14_3 := blk_frozen BK587.out 3
      have hfz14_4 := blk_frozen BK587.out 4
      have hfz14_5 := blk_frozen BK587.out 5
      obtain ⟨ad601, rfl, hx601_0, hx601_1, p601, q601⟩ := atU_T53 HR0_5 HB x9_2
      go_wp2
      go_roundg k2
      case measure => have := HJ2.out; have := HK2.out; omega
      case rel => exact ⟨(x6_2), (x7_2), (x8_2), (wrap64 (x9_2 + 1)), eqNow, eqNow, eqNow, H', ⟨by have := HJ2.out; have := HK2.out; omega⟩, ⟨kdMv HO_6⟩, ⟨bkUp BK587.out⟩, ⟨belPut⟩⟩
     have HC15 := Aside0.mk H
     clear H
     have hcz16_0 := bkc (v := .int .i64 a0_0) BK587.out 0 rfl
     have hcz16_1 := bkc (v := .int .i64 a0_1) BK587.out 1 rfl
     have hcz16_2 := bkc (v := .int .i64 a0_2) BK587.out 2 rfl
     have hcz16_3 := bkc (v := .int .i64 a0_3) BK587.out 3 rfl
     have hcz16_4 := bkc (v := .string a0_4) BK587.out 4 rfl
     have hcz16_5 := bkc (v := .slice A0_5 l0_5.length c0_5) BK587.out 5 rfl
     have hfz16_0 := blk_frozen BK587.out 0
     have hfz16_1 := blk_frozen BK587.out 1
     have hfz16_2 := blk_frozen BK587.out 2
     have hfz16_3 := blk_frozen BK587.out 3
     have hfz16_4 := blk_frozen BK587.out 4
     have hfz16_5 := blk_frozen BK587.out 5
     obtain ⟨ad601, rfl, hx601_0, hx601_1, p601, q601⟩ := atU_T53 HR0_5 HB x9_2
     go_upto_region 12 with (fail)
     go_cut [42] (fun v42 wc => ∃ (kq : Nat) (x42_14 : Bool), v42 = .bool x42_14 ∧ Aside0 (selvageref10_Narrow.j2 kq a1 x6_2 x7_2 x8_2 x9_2 x42_14 a0_0 a0_1 a0_2 a0_3 a0_4 l0_5 = some (r1, r2)) ∧ Aside0 (kq ≤ k2) ∧ Aside0 (Kd.S k29 29 wc w.heap.size (fun k_ => k_ ≠ gb587) u6 x6_2) ∧ Aside0 (wc.heap[gb587]? = some (.cells #[.int .i64 a0_0, .int .i64 a0_1, .int .i64 a0_2, .int .i64 a0_3, .string a0_4, (.slice (some ad601) l0_5.length c0_5)] 29 (0, 0))) ∧ Aside0 (Below w.heap.size w wc))
     case first =>
      have H := HC15.out
      clear HC15
      replace H := itHn H
      rcases H with ⟨-, c17b0, H⟩ | ⟨-, c17b0, H⟩
      ·(first | rw [c17b0] | (simp only [i64_w, i32_w]; rw [c17b0]) | skip)
       have H' := Aside0.mk H
       clear H
       go_wp2
       go_meet
       case rel => exact ⟨_, (false), eqNow, H', ⟨by have := HJ2.out; have := HK2.out; first | omega | exact Nat.le_refl _⟩, ⟨kdMv HO_6⟩, ⟨bkUp BK587.out⟩, ⟨belPut⟩⟩
      (first | rw [c17b0] | (simp only [i64_w, i32_w]; rw [c17b0]) | skip)
      have H' := Aside0.mk H
      clear H
      go_wp2
      go_meet
      case rel => exact ⟨_, (decide ((wrap64 (x9_2 - x8_2)) > (wrap64 (2 * a1)))), eqNow, H', ⟨by have := HJ2.out; have := HK2.out; first | omega | exact Nat.le_refl _⟩, ⟨kdMv HO_6⟩, ⟨bkUp BK587.out⟩, ⟨belPut⟩⟩
     case rest =>
      clear HC15
      try clear c6
      try clear c8
      try clear c8b0
      try clear c8b1
      try clear c11
      try clear c11b0
      try clear c12
      try clear c12b0
      try clear c13
      try clear c13b0
      try clear c13b1
      try clear hcz16_0 hcz16_1 hcz16_2 hcz16_3 hcz16_4 hcz16_5
      try clear hcz9_0 hcz9_1 hcz9_2 hcz9_3 hcz9_4 hcz9_5
      try clear hfz16_0 hfz16_1 hfz16_2 hfz16_3 hfz16_4 hfz16_5
      try clear hfz9_0 hfz9_1 hfz9_2 hfz9_3 hfz9_4 hfz9_5
      try clear hx601_0
      try clear hx601_1
      try clear p601
      try clear q601
      obtain ⟨kq, x42_14, rfl, HA, HJ14, HO_6, BK587, HB⟩ := hcut
      cases kq with
      | zero => exact absurd HA.out (by simp [selvageref10_Narrow.j2])
      | succ kj14 =>
       have H := HA.out
       clear HA
       simp only [selvageref10_Narrow.j2] at H
       replace H := itBn H
       rcases H with ⟨rfl, H⟩ | ⟨rfl, H⟩
       ·replace H := itLn H
        rcases H with ⟨-, c31b0, H⟩ | ⟨-, c31b0, H⟩
        ·have H' := Aside0.mk H
         clear H
         go_wp2
         go_roundg kj14
         case measure => have := HJ2.out; have := HK2.out; have := HJ14.out; omega
         case rel => exact ⟨(x6_2), (x7_2), (wrap64 (x9_2 + 1)), (wrap64 (x9_2 + 1)), eqNow, eqNow, eqNow, H', ⟨by have := HJ2.out; have := HK2.out; have := HJ14.out; omega⟩, ⟨kdMv HO_6⟩, ⟨bkUp BK587.out⟩, ⟨belPut⟩⟩
        obtain ⟨ji32, hji32⟩ : ∃ j_ : Int, (mn a1 x9_2) = j_ := ⟨_, rfl⟩
        first | rw [hji32] at H | simp only [hji32] at H
        have hji32_ : (if x9_2 < a1 then x9_2 else a1) = ji32 := hji32
        have H' := Aside0.mk H
        clear H
        go_wp2
        go_roundg kj14
        case measure => have := HJ2.out; have := HK2.out; have := HJ14.out; omega
        case rel => exact ⟨(x6_2), (wrap64 (x9_2 - (ji32))), (wrap64 (x9_2 + 1)), (wrap64 (x9_2 + 1)), (by first | rfl | (simp; done) | (simp only [← hji32] <;> (first | rfl | simp)) | (simp [*]; done) | (simp [*] <;> rfl)), eqNow, eqNow, H', ⟨by have := HJ2.out; have := HK2.out; have := HJ14.out; omega⟩, ⟨kdMv HO_6⟩, ⟨bkUp BK587.out⟩, ⟨belPut⟩⟩
       replace H := bdS H
       obtain ⟨⟨t602, t603, t604, t605, t606, t607⟩, A19, H⟩ := H
       replace H : (if x6_2.length < 1954687338268 then ((some (x6_2 ++ [(⟨t602, t603, t604, t605, t606, t607⟩ : S29)] : List (S29))).bind fun y610 => (if (-1) < 0 then (selvageref10_Narrow.l0 kj14 a1 y610 (wrap64 (x9_2 - (mn a1 x9_2))) (wrap64 (x9_2 + 1)) (wrap64 (x9_2 + 1)) a0_0 a0_1 a0_2 a0_3 a0_4 l0_5) else (selvageref10_Narrow.l0 kj14 a1 y610 (-1) (wrap64 (x9_2 + 1)) (wrap64 (x9_2 + 1)) a0_0 a0_1 a0_2 a0_3 a0_4 l0_5))) else (none)) = some (r1, r2) := H
       replace H := itLn H
       rcases H with ⟨_, _, H⟩ | ⟨c20, -, H⟩
       ·cases H
       have LMc20 := Aside0.mk c20
       clear c20
       obtain ⟨y610, hy610⟩ : ∃ y_ : List (S29), y_ = (x6_2 ++ [(⟨t602, t603, t604, t605, t606, t607⟩ : S29)]) := ⟨_, rfl⟩
       replace H : (if (-1) < 0 then (selvageref10_Narrow.l0 kj14 a1 y610 (wrap64 (x9_2 - (mn a1 x9_2))) (wrap64 (x9_2 + 1)) (wrap64 (x9_2 + 1)) a0_0 a0_1 a0_2 a0_3 a0_4 l0_5) else (selvageref10_Narrow.l0 kj14 a1 y610 (-1) (wrap64 (x9_2 + 1)) (wrap64 (x9_2 + 1)) a0_0 a0_1 a0_2 a0_3 a0_4 l0_5)) = some (r1, r2) := by first | (rw [hy610]; with_reducible exact H) | (have H2_ := (Option.bind_some _ _).symm.trans H; rw [hy610]; with_reducible exact H2_) | (have H2_ := (Option.bind_some _ _).symm.trans H; with_reducible exact H2_) | with_reducible exact H | (rw [hy610]; exact H) | exact H
       have Ny610 := Aside0.mk hy610
       clear hy610
       replace H := itLn H
       rcases H with ⟨-, c21b0, H⟩ | ⟨-, c21b0, H⟩
       ·exact absurd c21b0 (by decide)
       obtain ⟨ji22, hji22⟩ : ∃ j_ : Int, (mn a1 x9_2) = j_ := ⟨_, rfl⟩
       first | rw [hji22] at H | simp only [hji22] at H
       (try rw [hji22] at A19)
       have hji22_ : (if x9_2 < a1 then x9_2 else a1) = ji22 := hji22
       have H' := Aside0.mk H
       clear H
       have hcz23_0 := bkc (v := .int .i64 a0_0) BK587.out 0 rfl
       have hcz23_1 := bkc (v := .int .i64 a0_1) BK587.out 1 rfl
       have hcz23_2 := bkc (v := .int .i64 a0_2) BK587.out 2 rfl
       have hcz23_3 := bkc (v := .int .i64 a0_3) BK587.out 3 rfl
       have hcz23_4 := bkc (v := .string a0_4) BK587.out 4 rfl
       have hcz23_5 := bkc (v := .slice (some ad601) l0_5.length c0_5) BK587.out 5 rfl
       have hfz23_0 := blk_frozen BK587.out 0
       have hfz23_1 := blk_frozen BK587.out 1
       have hfz23_2 := blk_frozen BK587.out 2
       have hfz23_3 := blk_frozen BK587.out 3
       have hfz23_4 := blk_frozen BK587.out 4
       have hfz23_5 := blk_frozen BK587.out 5
       go_wp2_with (first | ((with_reducible refine gate_callee (f := 65) rfl ?_); refine goL (some 49) Tryz.func65 #[.agg #[.int .i64 a0_0, .int .i64 a0_1, .int .i64 a0_2, .int .i64 a0_3, .string a0_4, .slice (some ad601) l0_5.length c0_5], .int .i64 x7_2, .int .i64 (wrap64 (x8_2 + a1))] ?_; (with_reducible refine (selvageref10_cut.calls kj14 a0_0 a0_1 a0_2 a0_3 a0_4 _ _ l0_5 x7_2 (wrap64 (x8_2 + a1)) t602 t603 t604 t605 t606 t607 _ ?side1 ?side2 A19.out).mono ?_); (case side1 => exact kcU HR0_5 HB); (case side2 => exact HC0_5.out); rintro e w24 ⟨v608, rfl, ho0, hb⟩; refine ⟨_, rfl, ?_⟩; replace HO_6 := Aside0.mk (Kd.S_elder' (by (with_reducible repeat (first | apply Kd.S_alloc | apply Kd.S_drewN | apply Kd.S_drew)); exact HO_6.out) (Kd.R_base ho0) hb); have HO609 := Aside0.mk (Kd.R_lower ho0 (below_size (belPut))); replace BK587 := bkD BK587 hb; replace HB := hbD HB hb; clear hb; (try clear ho0); obtain ⟨Ao26, co26, eo26⟩ := Kd.R_slice HO609.out; subst eo26) | ((with_reducible refine gate_builtin (b := .append) (xs := #[.tmp 43, .tmp 50]) rfl ?_); at_builtin; refine Kd.S_append k29 (w0 := w) w.heap.size rfl (.tmp 43) (.tmp 50) 22 29 (.agg #[(.int .i64 0), (.int .i64 0), (.int .i64 0), (.int .i64 0), (.string ⟨#[]⟩), (.slice none 0 0)]) 72 rfl Tryz.underlying22 info29 rfl (by decide) (by omega) u6 x6_2 (⟨t602, t603, t604, t605, t606, t607⟩ : S29) [.int .i64 t602, .int .i64 t603, .int .i64 t604, .int .i64 t605, .string t606, .slice Ao26 t607.length co26] (fun k_ => k_ ≠ gb587) (fun k_ => some k_ = (.slice Ao26 t607.length co26 : Value).ownBlock) rfl rfl ?aP (fun k_ hk_ => ((Kd.R_mono (ok' := fun k_ => ((fun k_ => k_ ≠ gb587)) k_ ∧ some k_ ≠ (u6 : Value).ownBlock) (Kd.R_types (Kd.R_apart' (HO609.out) (Kd.S_typed HO_6.out) (by decide)) BK587.out (by decide)) (fun k_ hk => ⟨hk.2, hk.1.2⟩))).1 k_ hk_.symm) ?aF ?aO ?aB ?aS ?aL ?_; (case aP => exact k29_mkM _ _ _ (⟨t602, t603, t604, t605, t606, t607⟩ : S29) (Kd.R_mono (Kd.R_tight rfl (Kd.R_mono (ok' := fun k_ => ((fun k_ => k_ ≠ gb587)) k_ ∧ some k_ ≠ (u6 : Value).ownBlock) (Kd.R_types (Kd.R_apart' (HO609.out) (Kd.S_typed HO_6.out) (by decide)) BK587.out (by decide)) (fun k_ hk => ⟨hk.2, hk.1.2⟩))) (fun _ h_ => h_))); (case aB => exact (belPut)); (case aF => exact (fun k_ hk => Kd.freshB (g := gb587) (o := .cells #[.int .i64 a0_0, .int .i64 a0_1, .int .i64 a0_2, .int .i64 a0_3, .string a0_4, .slice (some ad601) l0_5.length c0_5] 29 (0, 0)) (bkUp BK587.out) k_ hk)); (case aO => exact (by (with_reducible repeat (first | apply Kd.S_alloc | apply Kd.S_drewN | apply Kd.S_drew)); exact Kd.S_mono HO_6.out (fun k_ hk => ⟨hk.1, fun e_ => hk.2 e_⟩))); (case aS => exact (below_size (belPut))); (case aL => have := LMc20.out; omega); intro v611 w25 ho hb hg hat; rw [← Ny610.out] at ho; replace BK587 := Aside0.mk (blk_grown (g := gb587) (o := .cells #[.int .i64 a0_0, .int .i64 a0_1, .int .i64 a0_2, .int .i64 a0_3, .string a0_4, .slice (some ad601) l0_5.length c0_5] 29 (0, 0)) (bkUp BK587.out) hg (Kd.S_away HO_6.out (fun _ hk => hk.1))); replace HB := Aside0.mk hb; have HO612 := Aside0.mk (ho); clear HO_6 HO609; clear ho hb hg hat))
       go_roundg kj14
       case measure => have := HJ2.out; have := HK2.out; have := HJ14.out; omega
       case rel => exact ⟨(y610), (wrap64 (x9_2 - (ji22))), (wrap64 (x9_2 + 1)), (wrap64 (x9_2 + 1)), (by first | rfl | (simp; done) | (simp only [← hji22] <;> (first | rfl | simp)) | (simp [*]; done) | (simp [*] <;> rfl)), eqNow, eqNow, H', ⟨by have := HJ2.out; have := HK2.out; have := HJ14.out; omega⟩, ⟨kdMv HO612⟩, ⟨bkUp BK587.out⟩, ⟨belPut⟩⟩
end Go.Proofs.YtecjoofjiockkaaGreatDoor.Pp
