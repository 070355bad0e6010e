import Derived.Test.YtkoagpnoaibdjaaESt
import Derived.Test.YtkoagpnoaibdjaaPp0
import Derived.Test.YtkoagpnoaibdjaaPp12
namespace Go.Proofs.Ytkoagpnoaibdjaa.Pp
open Go.RowKit Go.Proofs.Ytkoagpnoaibdjaa.Ext Go.Proofs.YtkoagpnoaibdjaaW.PrintWords Go.Proofs.YtkoagpnoaibdjaaW.PrintLast Go.Proofs.YtkoagpnoaibdjaaW.PrintMore
attribute [local go_sem] max2_int min2_int max_two min_two max_three min_three max_four min_four   -- for this text's walks alone
set_option linter.unusedVariables false
set_option linter.unusedSimpArgs false
def selvageref10_Reverse.l0 : Nat → List (S72) → Int → Int → Int → Int → Int → ByteArray → List (S72) → Option (Int × Int × Int × Int × ByteArray × (List (S72)))
 | 0, _, _, _, _, _, _, _, _ => none
 | k + 1, x3, x4, x370000, x370001, x370002, x370003, x370004, x370005 => if x4 < (x370005.length : Int) then (if 0 ≤ x4 then (if ((rd_T72 x370005 x4).f0) = 2 then (if x3.length < 5864062014805 then (selvageref10_Reverse.l0 k (x3 ++ [(⟨3, (rd_T72 x370005 x4).f1⟩ : S72)]) (wrap64 (x4 + 1)) x370000 x370001 x370002 x370003 x370004 x370005) else (none)) else (if ((rd_T72 x370005 x4).f0) = 3 then (if x3.length < 5864062014805 then (selvageref10_Reverse.l0 k (x3 ++ [(⟨2, (rd_T72 x370005 x4).f1⟩ : S72)]) (wrap64 (x4 + 1)) x370000 x370001 x370002 x370003 x370004 x370005) else (none)) else (if x3.length < 5864062014805 then (selvageref10_Reverse.l0 k (x3 ++ [(⟨(rd_T72 x370005 x4).f0, (rd_T72 x370005 x4).f1⟩ : S72)]) (wrap64 (x4 + 1)) x370000 x370001 x370002 x370003 x370004 x370005) else (none)))) else (none)) else ((selvageref10_Sorted.f k x3).bind fun t371 => (some (x370002, x370003, x370000, x370001, x370004, t371)))
def selvageref10_Reverse.f (k : Nat) (a0_0 : Int) (a0_1 : Int) (a0_2 : Int) (a0_3 : Int) (a0_4 : ByteArray) (l0_5 : List (S72)) : Option (Int × Int × Int × Int × ByteArray × (List (S72))) := selvageref10_Reverse.l0 k ([] : List (S72)) 0 a0_0 a0_1 a0_2 a0_3 a0_4 l0_5
def selvageref10_Reverse.T12 : Bool × List (List Nat × List Nat) := (true, [([], []), ([0], [0]), ([], []), ([2], [2]), ([], []), ([4], [4]), ([], []), ([6], [6]), ([], []), ([8], [8]), ([], []), ([10], [10]), ([1, 3, 5, 7, 9, 11], [1, 3, 5, 7, 9, 11]), ([12, 11, 0, 1, 2, 3, 4, 5, 6, 7, 8, 9, 10, 11, 12], [12])])
def selvageref10_Reverse.B12 : List Nat := [0, 1, 0, 4, 0, 16, 0, 64, 0, 256, 0, 1024, 4095, 8191]
theorem selvageref10_Reverse.tab12 : rtab .any (opsOf Try.f12 12) = selvageref10_Reverse.T12 := by kernel_rfl
theorem selvageref10_Reverse.bits12 : waitsOk selvageref10_Reverse.T12.2 selvageref10_Reverse.B12 = true := by kernel_rfl
set_option maxHeartbeats 8000000 in
set_option maxRecDepth 100000 in
theorem selvageref10_Reverse.calls (k : Nat) (a0_0 : Int) (a0_1 : Int) (a0_2 : Int) (a0_3 : Int) (a0_4 : ByteArray) (A0_5 : Option Addr) (c0_5 : Nat) (l0_5 : List (S72)) (r1 : Int) (r2 : Int) (r3 : Int) (r4 : Int) (r5 : ByteArray) (r6 : List (S72)) (w : World) (hr0_5 : Kd.C k72 w A0_5 l0_5.length l0_5) (hc0_5 : l0_5.length ≤ c0_5) (h : selvageref10_Reverse.f k a0_0 a0_1 a0_2 a0_3 a0_4 l0_5 = some (r1, r2, r3, r4, r5, r6)) :
  Calls Try.prog 12 #[.agg #[.int .i64 a0_0, .int .i64 a0_1, .int .i64 a0_2, .int .i64 a0_3, .string a0_4, .slice A0_5 l0_5.length c0_5]] w fun e w' => ∃ v5_ : Value, e = .returned (.agg #[.int .i64 r1, .int .i64 r2, .int .i64 r3, .int .i64 r4, .string r5, v5_]) ∧ Kd.R k72 72 w' w.heap.size (fun _ => True) v5_ r6 ∧ Below w.heap.size w w' := by
 have hu41 := Try.underlying41
 have hu72 := Try.underlying72
 have HR0_5 := Aside0.mk hr0_5
 have HC0_5 := Aside0.mk hc0_5
 clear hr0_5 hc0_5
 have HB := Aside0.mk (Below.refl w.heap.size w)
 have H := h
 clear h
 unfold selvageref10_Reverse.f at H
 have H' := Aside0.mk H
 clear H
 go_enter Try.func12, Try.ntmps12
 go_wp2_with (first | ((with_reducible refine gate_dst (N := 1) rfl ?_); refine boxEv (N := 1) #[.int .i64 a0_0, .int .i64 a0_1, .int .i64 a0_2, .int .i64 a0_3, .string a0_4, .slice A0_5 l0_5.length c0_5] 41 ?_; intro gb369 hg w2 hbox hb; have BK369 := Aside0.mk hbox; have GW369 := gwN HB hg; have GE369 := GW369; replace HB := hbD HB hb; clear hb hbox hg) | ((with_reducible refine gate_dst (N := 2) rfl ?_); refine boxEv (N := 2) #[.int .i64 0, .int .i64 0, .int .i64 0, .int .i64 0, .string (⟨#[]⟩ : ByteArray), .slice none 0 0] 41 ?_; intro gb370 hg w3 hbox hb; have BK370 := Aside0.mk hbox; have GW370 := gwN HB hg; have GE370 := GW370; replace HB := hbD HB hb; have NB369_370 := nbL BK369 hg; have NB370_369 := nbR BK369 hg; replace BK369 := bkD BK369 hb; clear hb hbox hg))
 go_loopg [3, 4] k (fun kq v3 v4 w' => ∃ (x3_1 : List (S72)) (x4_1 : Int), v4 = .int .i64 x4_1 ∧ Aside0 (selvageref10_Reverse.l0 kq x3_1 x4_1 a0_0 a0_1 a0_2 a0_3 a0_4 l0_5 = some (r1, r2, r3, r4, r5, r6)) ∧ Aside0 (kq ≤ k) ∧ Aside0 (Kd.R k72 72 w' w.heap.size (fun _ => True) v3 x3_1) ∧ Aside0 (w'.heap[gb369]? = some (.cells #[.int .i64 a0_0, .int .i64 a0_1, .int .i64 a0_2, .int .i64 a0_3, .string a0_4, (.slice A0_5 l0_5.length c0_5)] 41 (0, 0))) ∧ Aside0 (w'.heap[gb370]? = some (.cells #[.int .i64 0, .int .i64 0, .int .i64 0, .int .i64 0, .string (⟨#[]⟩ : ByteArray), (.slice none 0 0)] 41 (0, 0))) ∧ Aside0 (Below w.heap.size w w'))
 case atStart => exact ⟨(([] : List (S72))), (0), eqNow, H', ⟨Nat.le_refl _⟩, ⟨by first | exact Kd.R_nil _ _ _ _ _ | exact Kd.N_nil _ _ _ _ _ | exact Kd.V_nil _ _ _ _ _ | exact Kd.Q_nil _ _ _ _ _ | exact Kd.S_nil _ _ _ _ _⟩, ⟨bkUp BK369.out⟩, ⟨bkUp BK370.out⟩, ⟨belPut⟩⟩
 case round =>
  clear H'
  obtain ⟨x3_1, x4_1, rfl, HA, HK1, HO_3, BK369, BK370, HB⟩ := hrel
  cases gk with
  | zero => exact absurd HA.out (by simp [selvageref10_Reverse.l0])
  | succ k1 =>
   have H := HA.out
   clear HA
   simp only [selvageref10_Reverse.l0] at H
   replace H := itLn H
   rcases H with ⟨-, c4b0, H⟩ | ⟨-, c4b0, H⟩
   ·replace H := bdS H
    obtain ⟨t371, A32, H⟩ := H
    simp only [Option.some.injEq, Prod.mk.injEq] at H
    obtain ⟨rfl, rfl, rfl, rfl, rfl, rfl⟩ := H
    have hnb33 := NB369_370.out
    have hnc33 := NB370_369.out
    have hcz34_0 := bkc (v := .int .i64 a0_0) BK369.out 0 rfl
    have hcz34_1 := bkc (v := .int .i64 a0_1) BK369.out 1 rfl
    have hcz34_2 := bkc (v := .int .i64 a0_2) BK369.out 2 rfl
    have hcz34_3 := bkc (v := .int .i64 a0_3) BK369.out 3 rfl
    have hcz34_4 := bkc (v := .string a0_4) BK369.out 4 rfl
    have hcz34_5 := bkc (v := .slice A0_5 l0_5.length c0_5) BK369.out 5 rfl
    have hfz34_0 := blk_frozen BK369.out 0
    have hfz34_1 := blk_frozen BK369.out 1
    have hfz34_2 := blk_frozen BK369.out 2
    have hfz34_3 := blk_frozen BK369.out 3
    have hfz34_4 := blk_frozen BK369.out 4
    have hfz34_5 := blk_frozen BK369.out 5
    try go_wp2
    replace HO_3 := Aside0.mk (Kd.R_drew HO_3.out)
    replace BK369 := Aside0.mk (blk_drew BK369.out)
    replace BK370 := Aside0.mk (blk_drew BK370.out)
    replace HB := Aside0.mk (below_drew1 HB.out)
    obtain ⟨Ao36, co36, eo36⟩ := Kd.R_slice HO_3.out
    (first | subst eo36 | (injection eo36 with f1_ f2_ f3_; have f4_ := f1_.symm; have f5_ := f3_.symm; clear f1_ f2_ f3_; subst f4_; subst f5_))
    refine start_ (n := 14) (S := fun w' => w'.cell? ⟨gb369, 0, none⟩ = some (.int .i64 a0_0) ∧ w'.cell? ⟨gb369, 1, none⟩ = some (.int .i64 a0_1) ∧ w'.cell? ⟨gb369, 2, none⟩ = some (.int .i64 a0_2) ∧ w'.cell? ⟨gb369, 3, none⟩ = some (.int .i64 a0_3) ∧ w'.cell? ⟨gb369, 4, none⟩ = some (.string a0_4) ∧ w'.cell? ⟨gb369, 5, none⟩ = some (.slice A0_5 l0_5.length c0_5)) (ds := []) #[false, false, false, false, false, false, false, false, false, false, false, false, false, false] (by kernel_rfl) rfl rfl ⟨bc BK369 0, bc BK369 1, bc BK369 2, bc BK369 3, bc BK369 4, bc BK369 5⟩ (fun hHeld => ?_); refine with_tabW selvageref10_Reverse.tab12 selvageref10_Reverse.bits12 (fun HT_ HW_ => ?_)
    generalize wr.drew = w35 at HO_3 BK369 BK370 HB hHeld ⊢
    refine pureT 0 ?_
    refine pureT 2 ?_
    refine pureT 4 ?_
    refine pureT 6 ?_
    refine pureT 8 ?_
    refine pureT 10 ?_
    refine takeT 1 hHeld ?_
    refine takeT 3 hHeld ?_
    refine takeT 5 hHeld ?_
    refine takeT 7 hHeld ?_
    refine takeT 9 hHeld ?_
    refine one_ (i := 11) (N := some 41) #[true, true, true, true, true, true, true, true, true, true, true, true, false, false] rfl rfl (one_of HT_.out (by kernel_rfl)) (by decide) (fun K hK => ?_)
    refine goes_ Try.func30 (by kernel_rfl) rfl #[.slice Ao36 x3_1.length co36] (by rfl) rfl rfl argsOk ?_
    with_reducible refine (selvageref10_Sorted.calls k1 _ _ x3_1 t371 _ ?side1 ?side2 A32.out).mono ?_
    (case side1 => repeat (first | exact (Kd.R_reads' HO_3.out).2.2 | (with_reducible refine Kd.C_alloc ?_ _) | (with_reducible refine Kd.C_drewN ?_ _) | (with_reducible refine Kd.C_drew ?_)))
    (case side2 => exact (Kd.R_reads' HO_3.out).2.1)
    rintro e w37 ⟨v372, rfl, ho0, hb⟩
    refine ⟨_, rfl, ?_⟩
    have HO373 := Aside0.mk (Kd.R_lower (Kd.R_new' ho0 (Kd.R_lt (kdUp HO_3.out))) (below_size (belPut)))
    replace HO_3 := Aside0.mk (Kd.R_elder' (kdUp HO_3.out) (Kd.R_base ho0) hb)
    replace BK369 := bkD BK369 hb
    replace BK370 := bkD BK370 hb
    replace HB := hbD HB hb
    (try clear hb)
    (try clear hb2)
    (try clear hk)
    (try clear hi)
    (try clear ho0)
    obtain ⟨Ao38, co38, eo38⟩ := Kd.R_slice HO373.out
    (first | subst eo38 | (injection eo38 with f1_ f2_ f3_; have f4_ := f1_.symm; have f5_ := f3_.symm; clear f1_ f2_ f3_; subst f4_; subst f5_))
    refine hK.out _ _ ⟨bc BK369 0, bc BK369 1, bc BK369 2, bc BK369 3, bc BK369 4, bc BK369 5⟩ (fun hHeld => ?_)
    clear hK K
    refine norm_ (a' := ?_) ?_ ?_
    rotate_left
    ·show Act.put _ (some 41) _ = _
     simp only [Act.put, List.setIfInBounds_toArray, List.set_cons_zero, List.set_cons_succ, i64_w, i32_w]
     rfl
    refine pureT 12 ?_
    refine one_ (i := 13) (N := none) #[true, true, true, true, true, true, true, true, true, true, true, true, true, true] rfl rfl (one_of HT_.out (by kernel_rfl)) (by decide) (fun K hK => ?_)
    have hs39 : w37.cell? ⟨gb370, 0, none⟩ = some (.int .i64 0) := bc BK370 0
    have hfs39 := blk_frozen BK370.out 0
    have hns39_0 := NB369_370.out
    have hms39_0 := NB370_369.out
    have hs40 : w37.cell? ⟨gb370, 1, none⟩ = some (.int .i64 0) := bc BK370 1
    have hfs40 := blk_frozen BK370.out 1
    have hns40_0 := NB369_370.out
    have hms40_0 := NB370_369.out
    have hs41 : w37.cell? ⟨gb370, 2, none⟩ = some (.int .i64 0) := bc BK370 2
    have hfs41 := blk_frozen BK370.out 2
    have hns41_0 := NB369_370.out
    have hms41_0 := NB370_369.out
    have hs42 : w37.cell? ⟨gb370, 3, none⟩ = some (.int .i64 0) := bc BK370 3
    have hfs42 := blk_frozen BK370.out 3
    have hns42_0 := NB369_370.out
    have hms42_0 := NB370_369.out
    have hs43 : w37.cell? ⟨gb370, 4, none⟩ = some (.string (⟨#[]⟩ : ByteArray)) := bc BK370 4
    have hfs43 := blk_frozen BK370.out 4
    have hns43_0 := NB369_370.out
    have hms43_0 := NB370_369.out
    have hs44 : w37.cell? ⟨gb370, 5, none⟩ = some (.slice none 0 0) := bc BK370 5
    have hfs44 := blk_frozen BK370.out 5
    have hns44_0 := NB369_370.out
    have hms44_0 := NB370_369.out
    refine skip_ (w1 := ?_) (by rfl) rfl ?_ ?_
    rotate_left
    ·go_simp
     rfl
    refine hK.out _ _ ⟨((cell_far (p := ⟨gb370, _, none⟩) NB369_370.out _).trans (((cell_far (p := ⟨gb370, _, none⟩) NB369_370.out _).trans (((cell_far (p := ⟨gb370, _, none⟩) NB369_370.out _).trans (((cell_far (p := ⟨gb370, _, none⟩) NB369_370.out _).trans (((cell_far (p := ⟨gb370, _, none⟩) NB369_370.out _).trans (((cell_far (p := ⟨gb370, _, none⟩) NB369_370.out _).trans (hHeld.1)))))))))))), ((cell_far (p := ⟨gb370, _, none⟩) NB369_370.out _).trans (((cell_far (p := ⟨gb370, _, none⟩) NB369_370.out _).trans (((cell_far (p := ⟨gb370, _, none⟩) NB369_370.out _).trans (((cell_far (p := ⟨gb370, _, none⟩) NB369_370.out _).trans (((cell_far (p := ⟨gb370, _, none⟩) NB369_370.out _).trans (((cell_far (p := ⟨gb370, _, none⟩) NB369_370.out _).trans (hHeld.2.1)))))))))))), ((cell_far (p := ⟨gb370, _, none⟩) NB369_370.out _).trans (((cell_far (p := ⟨gb370, _, none⟩) NB369_370.out _).trans (((cell_far (p := ⟨gb370, _, none⟩) NB369_370.out _).trans (((cell_far (p := ⟨gb370, _, none⟩) NB369_370.out _).trans (((cell_far (p := ⟨gb370, _, none⟩) NB369_370.out _).trans (((cell_far (p := ⟨gb370, _, none⟩) NB369_370.out _).trans (hHeld.2.2.1)))))))))))), ((cell_far (p := ⟨gb370, _, none⟩) NB369_370.out _).trans (((cell_far (p := ⟨gb370, _, none⟩) NB369_370.out _).trans (((cell_far (p := ⟨gb370, _, none⟩) NB369_370.out _).trans (((cell_far (p := ⟨gb370, _, none⟩) NB369_370.out _).trans (((cell_far (p := ⟨gb370, _, none⟩) NB369_370.out _).trans (((cell_far (p := ⟨gb370, _, none⟩) NB369_370.out _).trans (hHeld.2.2.2.1)))))))))))), ((cell_far (p := ⟨gb370, _, none⟩) NB369_370.out _).trans (((cell_far (p := ⟨gb370, _, none⟩) NB369_370.out _).trans (((cell_far (p := ⟨gb370, _, none⟩) NB369_370.out _).trans (((cell_far (p := ⟨gb370, _, none⟩) NB369_370.out _).trans (((cell_far (p := ⟨gb370, _, none⟩) NB369_370.out _).trans (((cell_far (p := ⟨gb370, _, none⟩) NB369_370.out _).trans (hHeld.2.2.2.2.1)))))))))))), ((cell_far (p := ⟨gb370, _, none⟩) NB369_370.out _).trans (((cell_far (p := ⟨gb370, _, none⟩) NB369_370.out _).trans (((cell_far (p := ⟨gb370, _, none⟩) NB369_370.out _).trans (((cell_far (p := ⟨gb370, _, none⟩) NB369_370.out _).trans (((cell_far (p := ⟨gb370, _, none⟩) NB369_370.out _).trans (((cell_far (p := ⟨gb370, _, none⟩) NB369_370.out _).trans (hHeld.2.2.2.2.2))))))))))))⟩ (fun hHeld => ?_)
    clear hK K
    refine done_ (done_of HT_.out (by kernel_rfl)) ?_
    try go_wp2
    refine bodyPost_ret (results_cell_row rfl _ _ gb370 41 #[.int .i64 a0_2, .int .i64 a0_3, .int .i64 a0_0, .int .i64 a0_1, .string a0_4, .slice Ao38 t371.length co38] (0, 0) _ rfl (bkT BK370) Try.underlying41 rfl (by kernel_rfl)) rfl ?_
    exact ⟨_, eqEnd, by (with_reducible repeat (first | apply Kd.R_alloc | apply Kd.R_drewN | apply Kd.R_drew)); exact Kd.R_mono (Kd.R_far (p := ⟨gb370, 5, none⟩) (Kd.R_far (p := ⟨gb370, 4, none⟩) (Kd.R_far (p := ⟨gb370, 3, none⟩) (Kd.R_far (p := ⟨gb370, 2, none⟩) (Kd.R_far (p := ⟨gb370, 1, none⟩) (Kd.R_far (p := ⟨gb370, 0, none⟩) (Kd.R_types HO373.out BK370.out (by decide)) (fun _ hk => hk.2) (.int .i64 a0_2)) (fun _ hk => hk.2) (.int .i64 a0_3)) (fun _ hk => hk.2) (.int .i64 a0_0)) (fun _ hk => hk.2) (.int .i64 a0_1)) (fun _ hk => hk.2) (.string a0_4)) (fun _ hk => hk.2) (.slice Ao38 t371.length co38)) (fun _ hk => trivial), belPut⟩
   replace H := itLn H
   rcases H with ⟨_, _, H⟩ | ⟨-, c5b0, H⟩
   ·cases H
   replace H := itE H
   rcases H with ⟨-, c6b0, c6b1, H⟩ | ⟨c6, c6b0, c6b1, H⟩
   ·replace H := itLn H
    rcases H with ⟨_, _, H⟩ | ⟨c7, -, H⟩
    ·cases H
    have LMc7 := Aside0.mk c7
    clear c7
    obtain ⟨y376, hy376⟩ : ∃ y_ : List (S72), y_ = (x3_1 ++ [(⟨3, (rd_T72 l0_5 x4_1).f1⟩ : S72)]) := ⟨_, rfl⟩
    replace H : (selvageref10_Reverse.l0 k1 y376 (wrap64 (x4_1 + 1)) a0_0 a0_1 a0_2 a0_3 a0_4 l0_5) = some (r1, r2, r3, r4, r5, r6) := by first | (rw [hy376]; with_reducible exact H) | (have H2_ := (Option.bind_some _ _).symm.trans H; rw [hy376]; with_reducible exact H2_) | (have H2_ := (Option.bind_some _ _).symm.trans H; with_reducible exact H2_) | with_reducible exact H | (rw [hy376]; exact H) | exact H
    have Ny376 := Aside0.mk hy376
    clear hy376
    have H' := Aside0.mk H
    clear H
    have hnb8 := NB369_370.out
    have hnc8 := NB370_369.out
    have hcz9_0 := bkc (v := .int .i64 a0_0) BK369.out 0 rfl
    have hcz9_1 := bkc (v := .int .i64 a0_1) BK369.out 1 rfl
    have hcz9_2 := bkc (v := .int .i64 a0_2) BK369.out 2 rfl
    have hcz9_3 := bkc (v := .int .i64 a0_3) BK369.out 3 rfl
    have hcz9_4 := bkc (v := .string a0_4) BK369.out 4 rfl
    have hcz9_5 := bkc (v := .slice A0_5 l0_5.length c0_5) BK369.out 5 rfl
    have hfz9_0 := blk_frozen BK369.out 0
    have hfz9_1 := blk_frozen BK369.out 1
    have hfz9_2 := blk_frozen BK369.out 2
    have hfz9_3 := blk_frozen BK369.out 3
    have hfz9_4 := blk_frozen BK369.out 4
    have hfz9_5 := blk_frozen BK369.out 5
    obtain ⟨ad374, rfl, hx374_0, hx374_1, p374, q374⟩ := atU_T72 HR0_5 HB x4_1
    go_wp2_with (first | ((with_reducible refine gate_dst (N := 5) rfl ?_); refine boxEv (N := 5) #[.int .i64 0, .string (⟨#[]⟩ : ByteArray)] 72 ?_; intro gb375 hg w10 hbox hb; replace HO_3 := Aside0.mk (Kd.R_below (Kd.R_elderB (kdUp HO_3.out) gb375 (Nat.le_of_eq hg.symm)) hb); have BK375 := Aside0.mk hbox; have GW375 := gwN HB hg; have GE375 := GW375; replace HB := hbD HB hb; have NB369_375 := nbL BK369 hg; have NB375_369 := nbR BK369 hg; replace BK369 := bkD BK369 hb; have NB370_375 := nbL BK370 hg; have NB375_370 := nbR BK370 hg; replace BK370 := bkD BK370 hb; clear hb hbox hg; have hnb11 := NB375_369.out; have hnc11 := NB369_375.out; have hnb12 := NB375_370.out; have hnc12 := NB370_375.out; obtain ⟨hcz13_0, hcz13_1, hfz13_0, hfz13_1⟩ := bcf2 (W := w10) BK375) | ((with_reducible refine gate_builtin (b := .append) (xs := #[.tmp 26, .tmp 28]) rfl ?_); at_builtin; refine Kd.R_append k72 (w0 := w) w.heap.size rfl (.tmp 26) (.tmp 28) 39 72 (.agg #[(.int .i64 0), (.string ⟨#[]⟩)]) 24 rfl Try.underlying39 info72 rfl (by decide) (by omega) u3 x3_1 (⟨3, (rd_T72 l0_5 x4_1).f1⟩ : S72) [.int .i64 3, .string ((rd_T72 l0_5 x4_1).f1)] (fun k_ => k_ ≠ gb375) (fun _ => False) rfl (by first | (go_simp; done) | (go_simp; rfl)) ?aP (fun _ hk => hk.elim) ?aF ?aO ?aB ?aS ?aL ?_; (case aP => exact k72_mkM _ _ _ (⟨3, (rd_T72 l0_5 x4_1).f1⟩ : S72)); (case aB => exact (belPut)); (case aF => exact (fun k_ hk => Kd.freshB (g := gb375) (o := .cells #[.int .i64 3, .string ((rd_T72 l0_5 x4_1).f1)] 72 (0, 0)) (bkT BK375) k_ hk)); (case aO => exact (by (with_reducible repeat (first | apply Kd.R_alloc | apply Kd.R_drewN | apply Kd.R_drew)); exact Kd.R_mono (Kd.R_far (p := ⟨gb375, 0, none⟩) (Kd.R_far (p := ⟨gb375, 1, none⟩) (Kd.R_far (p := ⟨gb375, 0, none⟩) (Kd.R_mono HO_3.out (fun k_ hk => (⟨hk, hk.2⟩ : _ ∧ k_ ≠ gb375))) (fun _ hk => hk.2) (.int .i64 ((rd_T72 l0_5 x4_1).f0))) (fun _ hk => hk.2) (.string ((rd_T72 l0_5 x4_1).f1))) (fun _ hk => hk.2) (.int .i64 3)) (fun _ hk => hk.1.2))); (case aS => exact (below_size (belPut))); (case aL => have := LMc7.out; omega); intro v377 w14 ho hb hg hat; rw [← Ny376.out] at ho; replace BK369 := Aside0.mk (blk_grown (g := gb369) (o := .cells #[.int .i64 a0_0, .int .i64 a0_1, .int .i64 a0_2, .int .i64 a0_3, .string a0_4, .slice (some ad374) l0_5.length c0_5] 41 (0, 0)) (bkT BK369) hg (Kd.R_ne HO_3.out BK369.out (by decide))); replace BK370 := Aside0.mk (blk_grown (g := gb370) (o := .cells #[.int .i64 0, .int .i64 0, .int .i64 0, .int .i64 0, .string (⟨#[]⟩ : ByteArray), .slice none 0 0] 41 (0, 0)) (bkT BK370) hg (Kd.R_ne HO_3.out BK370.out (by decide))); replace BK375 := Aside0.mk (blk_grown (g := gb375) (o := .cells #[.int .i64 3, .string ((rd_T72 l0_5 x4_1).f1)] 72 (0, 0)) (bkT BK375) hg (Kd.R_away HO_3.out (fun _ hk => hk.2))); replace HB := Aside0.mk hb; have HO378 := Aside0.mk (ho); clear HO_3; clear ho hb hg hat))
    go_roundg k1
    case measure => have := HK1.out; omega
    case rel => exact ⟨(y376), (wrap64 (x4_1 + 1)), eqNow, H', ⟨by have := HK1.out; omega⟩, ⟨by (with_reducible repeat (first | apply Kd.R_alloc | apply Kd.R_drewN | apply Kd.R_drew)); exact Kd.R_mono HO378.out (fun _ hk => trivial)⟩, ⟨bkUp BK369.out⟩, ⟨bkUp BK370.out⟩, ⟨belPut⟩⟩
   replace H := itEn H
   rcases H with ⟨c15, c15b0, c15b1, H⟩ | ⟨-, c15b0, c15b1, H⟩
   ·replace H := itLn H
    rcases H with ⟨_, _, H⟩ | ⟨c24, -, H⟩
    ·cases H
    have LMc24 := Aside0.mk c24
    clear c24
    obtain ⟨y382, hy382⟩ : ∃ y_ : List (S72), y_ = (x3_1 ++ [(⟨(rd_T72 l0_5 x4_1).f0, (rd_T72 l0_5 x4_1).f1⟩ : S72)]) := ⟨_, rfl⟩
    replace H : (selvageref10_Reverse.l0 k1 y382 (wrap64 (x4_1 + 1)) a0_0 a0_1 a0_2 a0_3 a0_4 l0_5) = some (r1, r2, r3, r4, r5, r6) := by first | (rw [hy382]; with_reducible exact H) | (have H2_ := (Option.bind_some _ _).symm.trans H; rw [hy382]; with_reducible exact H2_) | (have H2_ := (Option.bind_some _ _).symm.trans H; with_reducible exact H2_) | with_reducible exact H | (rw [hy382]; exact H) | exact H
    have Ny382 := Aside0.mk hy382
    clear hy382
    have H' := Aside0.mk H
    clear H
    have hnb25 := NB369_370.out
    have hnc25 := NB370_369.out
    have hcz26_0 := bkc (v := .int .i64 a0_0) BK369.out 0 rfl
    have hcz26_1 := bkc (v := .int .i64 a0_1) BK369.out 1 rfl
    have hcz26_2 := bkc (v := .int .i64 a0_2) BK369.out 2 rfl
    have hcz26_3 := bkc (v := .int .i64 a0_3) BK369.out 3 rfl
    have hcz26_4 := bkc (v := .string a0_4) BK369.out 4 rfl
    have hcz26_5 := bkc (v := .slice A0_5 l0_5.length c0_5) BK369.out 5 rfl
    have hfz26_0 := blk_frozen BK369.out 0
    have hfz26_1 := blk_frozen BK369.out 1
    have hfz26_2 := blk_frozen BK369.out 2
    have hfz26_3 := blk_frozen BK369.out 3
    have hfz26_4 := blk_frozen BK369.out 4
    have hfz26_5 := blk_frozen BK369.out 5
    obtain ⟨ad374, rfl, hx374_0, hx374_1, p374, q374⟩ := atU_T72 HR0_5 HB x4_1
    go_wp2_with (first | ((with_reducible refine gate_dst (N := 5) rfl ?_); refine boxEv (N := 5) #[.int .i64 0, .string (⟨#[]⟩ : ByteArray)] 72 ?_; intro gb375 hg w27 hbox hb; replace HO_3 := Aside0.mk (Kd.R_below (Kd.R_elderB (kdUp HO_3.out) gb375 (Nat.le_of_eq hg.symm)) hb); have BK375 := Aside0.mk hbox; have GW375 := gwN HB hg; have GE375 := GW375; replace HB := hbD HB hb; have NB369_375 := nbL BK369 hg; have NB375_369 := nbR BK369 hg; replace BK369 := bkD BK369 hb; have NB370_375 := nbL BK370 hg; have NB375_370 := nbR BK370 hg; replace BK370 := bkD BK370 hb; clear hb hbox hg; have hnb28 := NB375_369.out; have hnc28 := NB369_375.out; have hnb29 := NB375_370.out; have hnc29 := NB370_375.out; obtain ⟨hcz30_0, hcz30_1, hfz30_0, hfz30_1⟩ := bcf2 (W := w27) BK375) | ((with_reducible refine gate_builtin (b := .append) (xs := #[.tmp 26, .tmp 28]) rfl ?_); at_builtin; refine Kd.R_append k72 (w0 := w) w.heap.size rfl (.tmp 26) (.tmp 28) 39 72 (.agg #[(.int .i64 0), (.string ⟨#[]⟩)]) 24 rfl Try.underlying39 info72 rfl (by decide) (by omega) u3 x3_1 (⟨(rd_T72 l0_5 x4_1).f0, (rd_T72 l0_5 x4_1).f1⟩ : S72) [.int .i64 ((rd_T72 l0_5 x4_1).f0), .string ((rd_T72 l0_5 x4_1).f1)] (fun k_ => k_ ≠ gb375) (fun _ => False) rfl (by first | (go_simp; done) | (go_simp; rfl)) ?aP (fun _ hk => hk.elim) ?aF ?aO ?aB ?aS ?aL ?_; (case aP => exact k72_mkM _ _ _ (⟨(rd_T72 l0_5 x4_1).f0, (rd_T72 l0_5 x4_1).f1⟩ : S72)); (case aB => exact (belPut)); (case aF => exact (fun k_ hk => Kd.freshB (g := gb375) (o := .cells #[.int .i64 ((rd_T72 l0_5 x4_1).f0), .string ((rd_T72 l0_5 x4_1).f1)] 72 (0, 0)) (bkT BK375) k_ hk)); (case aO => exact (by (with_reducible repeat (first | apply Kd.R_alloc | apply Kd.R_drewN | apply Kd.R_drew)); exact Kd.R_mono (Kd.R_far (p := ⟨gb375, 1, none⟩) (Kd.R_far (p := ⟨gb375, 0, none⟩) (Kd.R_mono HO_3.out (fun k_ hk => (⟨hk, hk.2⟩ : _ ∧ k_ ≠ gb375))) (fun _ hk => hk.2) (.int .i64 ((rd_T72 l0_5 x4_1).f0))) (fun _ hk => hk.2) (.string ((rd_T72 l0_5 x4_1).f1))) (fun _ hk => hk.1.2))); (case aS => exact (below_size (belPut))); (case aL => have := LMc24.out; omega); intro v383 w31 ho hb hg hat; rw [← Ny382.out] at ho; replace BK369 := Aside0.mk (blk_grown (g := gb369) (o := .cells #[.int .i64 a0_0, .int .i64 a0_1, .int .i64 a0_2, .int .i64 a0_3, .string a0_4, .slice (some ad374) l0_5.length c0_5] 41 (0, 0)) (bkT BK369) hg (Kd.R_ne HO_3.out BK369.out (by decide))); replace BK370 := Aside0.mk (blk_grown (g := gb370) (o := .cells #[.int .i64 0, .int .i64 0, .int .i64 0, .int .i64 0, .string (⟨#[]⟩ : ByteArray), .slice none 0 0] 41 (0, 0)) (bkT BK370) hg (Kd.R_ne HO_3.out BK370.out (by decide))); replace BK375 := Aside0.mk (blk_grown (g := gb375) (o := .cells #[.int .i64 ((rd_T72 l0_5 x4_1).f0), .string ((rd_T72 l0_5 x4_1).f1)] 72 (0, 0)) (bkT BK375) hg (Kd.R_away HO_3.out (fun _ hk => hk.2))); replace HB := Aside0.mk hb; have HO384 := Aside0.mk (ho); clear HO_3; clear ho hb hg hat))
    go_roundg k1
    case measure => have := HK1.out; omega
    case rel => exact ⟨(y382), (wrap64 (x4_1 + 1)), eqNow, H', ⟨by have := HK1.out; omega⟩, ⟨by (with_reducible repeat (first | apply Kd.R_alloc | apply Kd.R_drewN | apply Kd.R_drew)); exact Kd.R_mono HO384.out (fun _ hk => trivial)⟩, ⟨bkUp BK369.out⟩, ⟨bkUp BK370.out⟩, ⟨belPut⟩⟩
   replace H := itLn H
   rcases H with ⟨_, _, H⟩ | ⟨c16, -, H⟩
   ·cases H
   have LMc16 := Aside0.mk c16
   clear c16
   obtain ⟨y379, hy379⟩ : ∃ y_ : List (S72), y_ = (x3_1 ++ [(⟨2, (rd_T72 l0_5 x4_1).f1⟩ : S72)]) := ⟨_, rfl⟩
   replace H : (selvageref10_Reverse.l0 k1 y379 (wrap64 (x4_1 + 1)) a0_0 a0_1 a0_2 a0_3 a0_4 l0_5) = some (r1, r2, r3, r4, r5, r6) := by first | (rw [hy379]; with_reducible exact H) | (have H2_ := (Option.bind_some _ _).symm.trans H; rw [hy379]; with_reducible exact H2_) | (have H2_ := (Option.bind_some _ _).symm.trans H; with_reducible exact H2_) | with_reducible exact H | (rw [hy379]; exact H) | exact H
   have Ny379 := Aside0.mk hy379
   clear hy379
   have H' := Aside0.mk H
   clear H
   have hnb17 := NB369_370.out
   have hnc17 := NB370_369.out
   have hcz18_0 := bkc (v := .int .i64 a0_0) BK369.out 0 rfl
   have hcz18_1 := bkc (v := .int .i64 a0_1) BK369.out 1 rfl
   have hcz18_2 := bkc (v := .int .i64 a0_2) BK369.out 2 rfl
   have hcz18_3 := bkc (v := .int .i64 a0_3) BK369.out 3 rfl
   have hcz18_4 := bkc (v := .string a0_4) BK369.out 4 rfl
   have hcz18_5 := bkc (v := .slice A0_5 l0_5.length c0_5) BK369.out 5 rfl
   have hfz18_0 := blk_frozen BK369.out 0
   have hfz18_1 := blk_frozen BK369.out 1
   have hfz18_2 := blk_frozen BK369.out 2
   have hfz18_3 := blk_frozen BK369.out 3
   have hfz18_4 := blk_frozen BK369.out 4
   have hfz18_5 := blk_frozen BK369.out 5
   obtain ⟨ad374, rfl, hx374_0, hx374_1, p374, q374⟩ := atU_T72 HR0_5 HB x4_1
   go_wp2_with (first | ((with_reducible refine gate_dst (N := 5) rfl ?_); refine boxEv (N := 5) #[.int .i64 0, .string (⟨#[]⟩ : ByteArray)] 72 ?_; intro gb375 hg w19 hbox hb; replace HO_3 := Aside0.mk (Kd.R_below (Kd.R_elderB (kdUp HO_3.out) gb375 (Nat.le_of_eq hg.symm)) hb); have BK375 := Aside0.mk hbox; have GW375 := gwN HB hg; have GE375 := GW375; replace HB := hbD HB hb; have NB369_375 := nbL BK369 hg; have NB375_369 := nbR BK369 hg; replace BK369 := bkD BK369 hb; have NB370_375 := nbL BK370 hg; have NB375_370 := nbR BK370 hg; replace BK370 := bkD BK370 hb; clear hb hbox hg; have hnb20 := NB375_369.out; have hnc20 := NB369_375.out; have hnb21 := NB375_370.out; have hnc21 := NB370_375.out; obtain ⟨hcz22_0, hcz22_1, hfz22_0, hfz22_1⟩ := bcf2 (W := w19) BK375) | ((with_reducible refine gate_builtin (b := .append) (xs := #[.tmp 26, .tmp 28]) rfl ?_); at_builtin; refine Kd.R_append k72 (w0 := w) w.heap.size rfl (.tmp 26) (.tmp 28) 39 72 (.agg #[(.int .i64 0), (.string ⟨#[]⟩)]) 24 rfl Try.underlying39 info72 rfl (by decide) (by omega) u3 x3_1 (⟨2, (rd_T72 l0_5 x4_1).f1⟩ : S72) [.int .i64 2, .string ((rd_T72 l0_5 x4_1).f1)] (fun k_ => k_ ≠ gb375) (fun _ => False) rfl (by first | (go_simp; done) | (go_simp; rfl)) ?aP (fun _ hk => hk.elim) ?aF ?aO ?aB ?aS ?aL ?_; (case aP => exact k72_mkM _ _ _ (⟨2, (rd_T72 l0_5 x4_1).f1⟩ : S72)); (case aB => exact (belPut)); (case aF => exact (fun k_ hk => Kd.freshB (g := gb375) (o := .cells #[.int .i64 2, .string ((rd_T72 l0_5 x4_1).f1)] 72 (0, 0)) (bkT BK375) k_ hk)); (case aO => exact (by (with_reducible repeat (first | apply Kd.R_alloc | apply Kd.R_drewN | apply Kd.R_drew)); exact Kd.R_mono (Kd.R_far (p := ⟨gb375, 0, none⟩) (Kd.R_far (p := ⟨gb375, 1, none⟩) (Kd.R_far (p := ⟨gb375, 0, none⟩) (Kd.R_mono HO_3.out (fun k_ hk => (⟨hk, hk.2⟩ : _ ∧ k_ ≠ gb375))) (fun _ hk => hk.2) (.int .i64 ((rd_T72 l0_5 x4_1).f0))) (fun _ hk => hk.2) (.string ((rd_T72 l0_5 x4_1).f1))) (fun _ hk => hk.2) (.int .i64 2)) (fun _ hk => hk.1.2))); (case aS => exact (below_size (belPut))); (case aL => have := LMc16.out; omega); intro v380 w23 ho hb hg hat; rw [← Ny379.out] at ho; replace BK369 := Aside0.mk (blk_grown (g := gb369) (o := .cells #[.int .i64 a0_0, .int .i64 a0_1, .int .i64 a0_2, .int .i64 a0_3, .string a0_4, .slice (some ad374) l0_5.length c0_5] 41 (0, 0)) (bkT BK369) hg (Kd.R_ne HO_3.out BK369.out (by decide))); replace BK370 := Aside0.mk (blk_grown (g := gb370) (o := .cells #[.int .i64 0, .int .i64 0, .int .i64 0, .int .i64 0, .string (⟨#[]⟩ : ByteArray), .slice none 0 0] 41 (0, 0)) (bkT BK370) hg (Kd.R_ne HO_3.out BK370.out (by decide))); replace BK375 := Aside0.mk (blk_grown (g := gb375) (o := .cells #[.int .i64 2, .string ((rd_T72 l0_5 x4_1).f1)] 72 (0, 0)) (bkT BK375) hg (Kd.R_away HO_3.out (fun _ hk => hk.2))); replace HB := Aside0.mk hb; have HO381 := Aside0.mk (ho); clear HO_3; clear ho hb hg hat))
   go_roundg k1
   case measure => have := HK1.out; omega
   case rel => exact ⟨(y379), (wrap64 (x4_1 + 1)), eqNow, H', ⟨by have := HK1.out; omega⟩, ⟨by (with_reducible repeat (first | apply Kd.R_alloc | apply Kd.R_drewN | apply Kd.R_drew)); exact Kd.R_mono HO381.out (fun _ hk => trivial)⟩, ⟨bkUp BK369.out⟩, ⟨bkUp BK370.out⟩, ⟨belPut⟩⟩
end Go.Proofs.Ytkoagpnoaibdjaa.Pp
