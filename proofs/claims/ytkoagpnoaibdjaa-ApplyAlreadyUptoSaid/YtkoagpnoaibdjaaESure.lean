/-
  The law's sure, of which only true is told: the print's text, its other arms struck by gsure.py.
-/
import Derived.Test.YtkoagpnoaibdjaaPp0
import Derived.Test.YtkoagpnoaibdjaaEApply
namespace Go.Proofs.Ytkoagpnoaibdjaa.Ext
open Go.RowKit Go.Proofs.Ytkoagpnoaibdjaa.Pp Go.Proofs.YtkoagpnoaibdjaaW.PrintWords Go.Proofs.YtkoagpnoaibdjaaW.PrintLast Go.Proofs.YtkoagpnoaibdjaaW.PrintMore
attribute [local go_sem] max2_int min2_int max_two min_two max_three min_three max_four min_four   -- for this text's walks alone
set_option linter.unusedVariables false
set_option linter.unusedSimpArgs false
def apply_Find.f (k : Nat) (l0 : List ByteArray) (b0 b1 b2 b3 : Int) (b4 : ByteArray) (b5 : List S72) (a2 a3 a4 : Int) : Option (Int × Int × Bool) := apply_Find.g k l0 ⟨b0, b1, b2, b3, b4, b5⟩ a2 a3 a4
theorem apply_Find.mono : ∀ l0 b0 b1 b2 b3 b4 b5 a2 a3 a4 k, LeO (apply_Find.f k l0 b0 b1 b2 b3 b4 b5 a2 a3 a4) (apply_Find.f (k + 1) l0 b0 b1 b2 b3 b4 b5 a2 a3 a4) := fun _ _ _ _ _ _ _ _ _ _ _ => apply_Find.gmono _ _ _ _ _ _
theorem apply_Find.calls (k : Nat) (A0 : Option Addr) (c0 : Nat) (l0 : List ByteArray) (b0 b1 b2 b3 : Int) (b4 : ByteArray) (A5 : Option Addr) (c5 : Nat) (b5 : List S72) (a2 a3 a4 r1 r2 : Int) (r3 : Bool) (w : World)
    (hr0 : Kd.C Kd.string w A0 l0.length l0) (hc0 : l0.length ≤ c0) (hr5 : Kd.C k72 w A5 b5.length b5) (hc5 : b5.length ≤ c5) (h : apply_Find.f k l0 b0 b1 b2 b3 b4 b5 a2 a3 a4 = some (r1, r2, r3)) :
    Calls Try.prog 22 #[.slice A0 l0.length c0, .agg #[.int .i64 b0, .int .i64 b1, .int .i64 b2, .int .i64 b3, .string b4, .slice A5 b5.length c5], .int .i64 a2, .int .i64 a3, .int .i64 a4] w fun e w' => e = .returned (.tuple #[.int .i64 r1, .int .i64 r2, .bool r3]) ∧ Below w.heap.size w w' :=
  find.calls k A0 c0 l0 ⟨b0, b1, b2, b3, b4, b5⟩ A5 c5 a2 a3 a4 r1 r2 r3 w hr0 hc0 hr5 hc5 h
theorem k41_mkF (W : World) (ok : Nat → Prop) (x : S41) {A5 : Option Addr} {c5 : Nat} (l5 : x.f5.length ≤ c5) (g5 : Kd.F k72 W ok A5 x.f5.length x.f5) : Kd.FK k41 W ok x [.int .i64 x.f0, .int .i64 x.f1, .int .i64 x.f2, .int .i64 x.f3, .string x.f4, .slice A5 x.f5.length c5] := fun W2 hW => k41_mk W2 x l5 (g5 W2 hW)
theorem eqA45 (d : Nat) (w : World) (x0 y0 : Int) (x1 y1 : Int) (x2 y2 : Int) (x3 y3 : Int) :
    (Op.equalIn (d + 2) 45 (.agg #[.int .i64 x0, .int .i64 x1, .int .i64 x2, .int .i64 x3]) (.agg #[.int .i64 y0, .int .i64 y1, .int .i64 y2, .int .i64 y3])).run Try.prog w = .ok (x0 == y0 && (x1 == y1 && (x2 == y2 && (x3 == y3)))) w := by
  refine eqA_of Try.underlying45 (by kernel_rfl) ?_
  refine eqf_cons (by rfl) (by go_simp; rfl) (by go_simp; rfl) (by go_simp) ?_
  refine eqf_cons (by rfl) (by go_simp; rfl) (by go_simp; rfl) (by go_simp) ?_
  refine eqf_cons (by rfl) (by go_simp; rfl) (by go_simp; rfl) (by go_simp) ?_
  exact eqf_last (by rfl) (by go_simp; rfl) (by go_simp; rfl) (by go_simp)
attribute [local go_sem high] eqA45
def selvagelaw17_one.f (a0 : Int) : Option (Int × Int × Int × Int × ByteArray × (List (S72))) := some (a0, 2, a0, 2, (⟨#[]⟩ : ByteArray), (([(⟨1, (⟨#[98, 10]⟩ : ByteArray)⟩ : S72), (⟨2, (⟨#[99, 10]⟩ : ByteArray)⟩ : S72), (⟨3, (⟨#[120, 10]⟩ : ByteArray)⟩ : S72)] : List (S72))))
set_option maxHeartbeats 8000000 in
set_option maxRecDepth 100000 in
theorem selvagelaw17_one.calls (a0 : Int) (r1 : Int) (r2 : Int) (r3 : Int) (r4 : Int) (r5 : ByteArray) (r6 : List (S72)) (w : World) (h : selvagelaw17_one.f a0 = some (r1, r2, r3, r4, r5, r6)) :
    Calls Try.prog 21 #[.int .i64 a0] w fun e w' => ∃ v5_ : Value, e = .returned (.agg #[.int .i64 r1, .int .i64 r2, .int .i64 r3, .int .i64 r4, .string r5, v5_]) ∧ Kd.R k72 72 w' w.heap.size (fun _ => True) v5_ r6 ∧ Below w.heap.size w w' := by
  have hu41 := Try.underlying41
  have hu72 := Try.underlying72
  have HB := Aside0.mk (Below.refl w.heap.size w)
  have H : (some (a0, 2, a0, 2, (⟨#[]⟩ : ByteArray), (([(⟨1, (⟨#[98, 10]⟩ : ByteArray)⟩ : S72), (⟨2, (⟨#[99, 10]⟩ : ByteArray)⟩ : S72), (⟨3, (⟨#[120, 10]⟩ : ByteArray)⟩ : S72)] : List (S72))))) = some (r1, r2, r3, r4, r5, r6) := h
  clear h
  obtain ⟨y237, hy237⟩ : ∃ y_ : List (S72), y_ = (([(⟨1, (⟨#[98, 10]⟩ : ByteArray)⟩ : S72), (⟨2, (⟨#[99, 10]⟩ : ByteArray)⟩ : S72), (⟨3, (⟨#[120, 10]⟩ : ByteArray)⟩ : S72)] : List (S72))) := ⟨_, rfl⟩
  replace H : (some (a0, 2, a0, 2, (⟨#[]⟩ : ByteArray), y237)) = some (r1, r2, r3, r4, r5, r6) := by first | (rw [hy237]; with_reducible exact H) | (have H2_ := (Option.bind_some _ _).symm.trans H; rw [hy237]; with_reducible exact H2_) | (have H2_ := (Option.bind_some _ _).symm.trans H; with_reducible exact H2_) | with_reducible exact H | (rw [hy237]; exact H) | exact H
  have Ny237 := Aside0.mk hy237
  clear hy237
  simp only [Option.some.injEq, Prod.mk.injEq] at H
  obtain ⟨rfl, rfl, rfl, rfl, rfl, rfl⟩ := H
  go_enter Try.func21, Try.ntmps21
  go_wp2_with (first | ((with_reducible refine gate_dst (N := 2) rfl ?_); refine box_event ?hg (N := 2) ?hd (cs := #[.int .i64 0, .int .i64 0, .int .i64 0, .int .i64 0, .string (⟨#[]⟩ : ByteArray), .slice none 0 0]) (t := 41) ?hr ?_; (case hd => rfl); (case hg => rfl); (case hr => first | (go_simp; done) | (go_simp; rfl)); intro gb236 hg w2 hbox hb; have n0_ := Aside0.mk (below_step (by repeat (first | (with_reducible first | exact HB.out | apply below_alloc | apply pw_below_drewN | apply below_drew1) | exact HB.out)) hb); have n1_ := Aside0.mk (hbox); have n2_ := Aside0.mk ((by rw [hg]; exact (below_size (by repeat (first | (with_reducible first | exact HB.out | apply below_alloc | apply pw_below_drewN | apply below_drew1) | exact HB.out))) : w.heap.size ≤ gb236)); have n3_ := Aside0.mk ((by rw [hg]; exact (below_size (by repeat (first | (with_reducible first | exact HB.out | apply below_alloc | apply pw_below_drewN | apply below_drew1) | exact HB.out))) : w.heap.size ≤ gb236)); clear HB; have HB := n0_; have BK236 := n1_; have GW236 := n2_; have GE236 := n3_; clear n0_ n1_ n2_ n3_; clear hb hbox hg) | ((with_reducible refine gate_dst (N := 8) rfl ?_); refine Kd.R_lit k72 _ 72 ?hg (N := 8) ?hd (xs := ([(⟨1, (⟨#[98, 10]⟩ : ByteArray)⟩ : S72), (⟨2, (⟨#[99, 10]⟩ : ByteArray)⟩ : S72), (⟨3, (⟨#[120, 10]⟩ : ByteArray)⟩ : S72)] : List (S72))) (inner := [.int .i64 1, .string (⟨#[98, 10]⟩ : ByteArray), .int .i64 2, .string (⟨#[99, 10]⟩ : ByteArray), .int .i64 3, .string (⟨#[120, 10]⟩ : ByteArray)]) (ok := fun _ => True) (okp := fun _ => True) ?hr ?hp (fun _ hk => hk) trivial (Below.refl _ _) (Nat.le_refl _) (by simp) ?_; (case hd => rfl); (case hg => rfl); (case hr => first | (go_simp; done) | (go_simp; rfl)); (case hp => exact (Reps.c2 (show Kd.M k72 _ _ _ (⟨1, (⟨#[98, 10]⟩ : ByteArray)⟩ : S72) [.int .i64 1, .string (⟨#[98, 10]⟩ : ByteArray)] from (k72_mkM _ _ _ (⟨1, (⟨#[98, 10]⟩ : ByteArray)⟩ : S72) )) (Reps.c2 (show Kd.M k72 _ _ _ (⟨2, (⟨#[99, 10]⟩ : ByteArray)⟩ : S72) [.int .i64 2, .string (⟨#[99, 10]⟩ : ByteArray)] from (k72_mkM _ _ _ (⟨2, (⟨#[99, 10]⟩ : ByteArray)⟩ : S72) )) (Reps.c2 (show Kd.M k72 _ _ _ (⟨3, (⟨#[120, 10]⟩ : ByteArray)⟩ : S72) [.int .i64 3, .string (⟨#[120, 10]⟩ : ByteArray)] from (k72_mkM _ _ _ (⟨3, (⟨#[120, 10]⟩ : ByteArray)⟩ : S72) )) (Reps.none _ _))))); intro v238 w3 ho4 hb hg_ hnew_; clear hg_ hnew_; (first | rw [← Ny237.out] at ho4 | (simp only [Int.reduceToNat] at ho4; rw [← Ny237.out] at ho4)); have n0_ := Aside0.mk (Kd.R_lower ho4 (below_size (by repeat (first | (with_reducible first | exact HB.out | apply below_alloc | apply pw_below_drewN | apply below_drew1 | refine below_set ?_ GE236.out) | exact HB.out)))); have n1_ := Aside0.mk (blk_below (g := gb236) (o := .cells #[.int .i64 0, .int .i64 0, .int .i64 0, .int .i64 0, .string (⟨#[]⟩ : ByteArray), .slice none 0 0] 41 (0, 0)) (by (with_reducible repeat (first | refine blk_drewN ?_ _ | refine blk_drew ?_ | refine blk_alloc ?_ _)); exact BK236.out) hb); have n2_ := Aside0.mk (below_step (by repeat (first | (with_reducible first | exact HB.out | apply below_alloc | apply pw_below_drewN | apply below_drew1 | refine below_set ?_ GE236.out) | exact HB.out)) hb); clear BK236; clear HB; have HO239 := n0_; have BK236 := n1_; have HB := n2_; clear n0_ n1_ n2_; clear hb ho4; obtain ⟨Ao5, co5, eo5⟩ := Kd.R_slice HO239.out; subst eo5; have hcz6_0 : w3.cell? ⟨gb236, 0, none⟩ = some (.int .i64 0) := (blk_cell BK236.out 0).trans rfl; have hcz6_1 : w3.cell? ⟨gb236, 1, none⟩ = some (.int .i64 0) := (blk_cell BK236.out 1).trans rfl; have hcz6_2 : w3.cell? ⟨gb236, 2, none⟩ = some (.int .i64 0) := (blk_cell BK236.out 2).trans rfl; have hcz6_3 : w3.cell? ⟨gb236, 3, none⟩ = some (.int .i64 0) := (blk_cell BK236.out 3).trans rfl; have hcz6_4 : w3.cell? ⟨gb236, 4, none⟩ = some (.string (⟨#[]⟩ : ByteArray)) := (blk_cell BK236.out 4).trans rfl; have hcz6_5 : w3.cell? ⟨gb236, 5, none⟩ = some (.slice none 0 0) := (blk_cell BK236.out 5).trans rfl; have hfz6_0 := blk_frozen BK236.out 0; have hfz6_1 := blk_frozen BK236.out 1; have hfz6_2 := blk_frozen BK236.out 2; have hfz6_3 := blk_frozen BK236.out 3; have hfz6_4 := blk_frozen BK236.out 4; have hfz6_5 := blk_frozen BK236.out 5))
  refine bodyPost_ret (results_cell_row rfl _ _ gb236 41 #[.int .i64 a0, .int .i64 2, .int .i64 a0, .int .i64 2, .string (⟨#[]⟩ : ByteArray), .slice Ao5 y237.length co5] (0, 0) _ rfl (by (with_reducible repeat (first | refine blk_drewN ?_ _ | refine blk_drew ?_ | refine blk_alloc ?_ _)); refine blk_put (cs := #[.int .i64 a0, .int .i64 2, .int .i64 a0, .int .i64 2, .string (⟨#[]⟩ : ByteArray), .slice none 0 0]) ?_ 5 _ rfl; (with_reducible repeat (first | refine blk_drewN ?_ _ | refine blk_drew ?_ | refine blk_alloc ?_ _)); refine blk_put (cs := #[.int .i64 a0, .int .i64 2, .int .i64 a0, .int .i64 2, .string (⟨#[]⟩ : ByteArray), .slice none 0 0]) ?_ 4 _ rfl; (with_reducible repeat (first | refine blk_drewN ?_ _ | refine blk_drew ?_ | refine blk_alloc ?_ _)); refine blk_put (cs := #[.int .i64 a0, .int .i64 2, .int .i64 a0, .int .i64 0, .string (⟨#[]⟩ : ByteArray), .slice none 0 0]) ?_ 3 _ rfl; (with_reducible repeat (first | refine blk_drewN ?_ _ | refine blk_drew ?_ | refine blk_alloc ?_ _)); refine blk_put (cs := #[.int .i64 a0, .int .i64 2, .int .i64 0, .int .i64 0, .string (⟨#[]⟩ : ByteArray), .slice none 0 0]) ?_ 2 _ rfl; (with_reducible repeat (first | refine blk_drewN ?_ _ | refine blk_drew ?_ | refine blk_alloc ?_ _)); refine blk_put (cs := #[.int .i64 a0, .int .i64 0, .int .i64 0, .int .i64 0, .string (⟨#[]⟩ : ByteArray), .slice none 0 0]) ?_ 1 _ rfl; (with_reducible repeat (first | refine blk_drewN ?_ _ | refine blk_drew ?_ | refine blk_alloc ?_ _)); refine blk_put (cs := #[.int .i64 0, .int .i64 0, .int .i64 0, .int .i64 0, .string (⟨#[]⟩ : ByteArray), .slice none 0 0]) ?_ 0 _ rfl; (with_reducible repeat (first | refine blk_drewN ?_ _ | refine blk_drew ?_ | refine blk_alloc ?_ _)); exact BK236.out) Try.underlying41 rfl (by kernel_rfl)) rfl ?_
  exact ⟨_, by first | rfl | (simp [errW_none, errW_some] <;> rfl) | (simp [*, errW_none, errW_some] <;> rfl) | (simp only [i64_w, i32_w, u8_w]; first | rfl | (simp [errW_none, errW_some] <;> rfl)) | (simp only [bne_nil, beq_nil]; first | rfl | (simp <;> rfl)), by (with_reducible repeat (first | apply Kd.R_alloc | apply Kd.R_drewN | apply Kd.R_drew)); exact Kd.R_mono (Kd.R_far (p := ⟨gb236, 5, none⟩) (Kd.R_far (p := ⟨gb236, 4, none⟩) (Kd.R_far (p := ⟨gb236, 3, none⟩) (Kd.R_far (p := ⟨gb236, 2, none⟩) (Kd.R_far (p := ⟨gb236, 1, none⟩) (Kd.R_far (p := ⟨gb236, 0, none⟩) (Kd.R_types HO239.out BK236.out (by decide)) (fun _ hk => hk.2) (.int .i64 a0)) (fun _ hk => hk.2) (.int .i64 2)) (fun _ hk => hk.2) (.int .i64 a0)) (fun _ hk => hk.2) (.int .i64 2)) (fun _ hk => hk.2) (.string (⟨#[]⟩ : ByteArray))) (fun _ hk => hk.2) (.slice Ao5 y237.length co5)) (fun _ hk => trivial), by repeat (first | (with_reducible first | exact HB.out | apply below_alloc | apply pw_below_drewN | apply below_drew1 | refine below_set ?_ GE236.out) | exact HB.out)⟩
def selvagelaw17_sure.f (k : Nat)  : Option (Bool) := (some (([(⟨#[97, 10]⟩ : ByteArray), (⟨#[98, 10]⟩ : ByteArray), (⟨#[99, 10]⟩ : ByteArray), (⟨#[100, 10]⟩ : ByteArray)] : List ByteArray) : List ByteArray)).bind fun y240 => ((selvagelaw17_one.f 1).bind fun bt243 => ((apply_Apply.f k y240 (([(⟨bt243.1, bt243.2.1, bt243.2.2.1, bt243.2.2.2.1, bt243.2.2.2.2.1, bt243.2.2.2.2.2⟩ : S41)] : List (S41))) 0).bind fun bt254 => (if 2 ≤ (y240.length : Int) then ((selvagelaw17_one.f 1).bind fun bt269 => ((apply_Apply.f k (y240.take 2) (([(⟨bt269.1, bt269.2.1, bt269.2.2.1, bt269.2.2.2.1, bt269.2.2.2.2.1, bt269.2.2.2.2.2⟩ : S41)] : List (S41))) 0).bind fun bt280 => ((selvagelaw17_one.f 2).bind fun bt290 => ((apply_Find.f k y240 bt290.1 bt290.2.1 bt290.2.2.1 bt290.2.2.2.1 bt290.2.2.2.2.1 bt290.2.2.2.2.2 0 0 0).bind fun bt298 => (if bt254.2.2.2.isNone = true then (if (bt254.1.length : Int) = 4 then (if 2 < (bt254.1.length : Int) then (if (rdOf ByteArray.empty bt254.1 2).toList = ([120, 10] : List UInt8) then (if (bt254.2.1.length : Int) = 1 then (if 0 < (bt254.2.1.length : Int) then (if (((rd_T45 bt254.2.1 0).f0) == 0 && (((rd_T45 bt254.2.1 0).f1) == 2 && (((rd_T45 bt254.2.1 0).f2) == 1 && (((rd_T45 bt254.2.1 0).f3) == 0)))) = true then (if (bt254.2.2.1.length : Int) = 0 then (if bt280.2.2.2.isNone = true then (if (bt280.2.1.length : Int) = 0 then (if (bt280.2.2.1.length : Int) = 1 then (if bt298.1 = 1 then (if bt298.2.1 = 0 then (some bt298.2.2) else none) else none) else none) else none) else none) else none) else none) else (none)) else none) else none) else (none)) else none) else none))))) else (none))))
theorem selvagelaw17_sure.mono : ∀ k, LeO (selvagelaw17_sure.f k ) (selvagelaw17_sure.f (k + 1) ) := by
  intro  k
  unfold selvagelaw17_sure.f
  repeat' first
      | (with_reducible exact apply_Apply.mono _ _ _ _)
      | (with_reducible exact apply_Find.mono _ _ _ _ _ _ _ _ _ _ _)
      | (with_reducible exact LeO.refl _)
      | (with_reducible exact LeO.none _)
      | (with_reducible refine LeO.ite ?_ ?_)
      | (with_reducible refine LeO.bind ?_ (fun _ => ?_))
      | exact apply_Apply.mono _ _ _ _
      | exact apply_Find.mono _ _ _ _ _ _ _ _ _ _ _
      | exact LeO.none _
      | refine LeO.ite ?_ ?_
      | refine LeO.bind ?_ (fun _ => ?_)
def selvagelaw17_sure.T3 : Bool × List (List Nat × List Nat) := (true, [([], []), ([0], [0]), ([], []), ([2], [2]), ([1, 3, 2], [1, 3]), ([4], [4]), ([5], [5]), ([5], [5]), ([5], [5]), ([5], [5]), ([6, 4, 0, 1, 2, 3, 4, 5, 6], [6]), ([7, 10, 0, 1, 2, 3, 4, 5, 6, 7, 10], [7]), ([8, 11, 0, 1, 2, 3, 4, 5, 6, 7, 8, 10, 11], [8]), ([9, 12, 0, 1, 2, 3, 4, 5, 6, 7, 8, 9, 10, 11, 12], [9])])
def selvagelaw17_sure.B3 : List Nat := [0, 1, 0, 4, 15, 31, 63, 63, 63, 63, 127, 1279, 3583, 8191]
theorem selvagelaw17_sure.tab3 : rtab .any (opsOf Try.f8 3) = selvagelaw17_sure.T3 := by kernel_rfl
theorem selvagelaw17_sure.bits3 : waitsOk selvagelaw17_sure.T3.2 selvagelaw17_sure.B3 = true := by kernel_rfl
set_option maxHeartbeats 80000000 in
set_option maxRecDepth 100000 in
theorem selvagelaw17_sure.calls (k : Nat)  (r : Bool) (w : World) (h : selvagelaw17_sure.f k  = some r) :
    Calls Try.prog 8 #[] w fun e w' => e = .returned (.bool r) ∧ Below w.heap.size w w' := by
  have hu45 := Try.underlying45
  have hu34 := Try.underlying34
  have HB := Aside0.mk (Below.refl w.heap.size w)
  have H : ((some (([(⟨#[97, 10]⟩ : ByteArray), (⟨#[98, 10]⟩ : ByteArray), (⟨#[99, 10]⟩ : ByteArray), (⟨#[100, 10]⟩ : ByteArray)] : List ByteArray) : List ByteArray)).bind fun y240 => ((selvagelaw17_one.f 1).bind fun bt243 => ((apply_Apply.f k y240 (([(⟨bt243.1, bt243.2.1, bt243.2.2.1, bt243.2.2.2.1, bt243.2.2.2.2.1, bt243.2.2.2.2.2⟩ : S41)] : List (S41))) 0).bind fun bt254 => (if 2 ≤ (y240.length : Int) then ((selvagelaw17_one.f 1).bind fun bt269 => ((apply_Apply.f k (y240.take 2) (([(⟨bt269.1, bt269.2.1, bt269.2.2.1, bt269.2.2.2.1, bt269.2.2.2.2.1, bt269.2.2.2.2.2⟩ : S41)] : List (S41))) 0).bind fun bt280 => ((selvagelaw17_one.f 2).bind fun bt290 => ((apply_Find.f k y240 bt290.1 bt290.2.1 bt290.2.2.1 bt290.2.2.2.1 bt290.2.2.2.2.1 bt290.2.2.2.2.2 0 0 0).bind fun bt298 => (if bt254.2.2.2.isNone = true then (if (bt254.1.length : Int) = 4 then (if 2 < (bt254.1.length : Int) then (if (rdOf ByteArray.empty bt254.1 2).toList = ([120, 10] : List UInt8) then (if (bt254.2.1.length : Int) = 1 then (if 0 < (bt254.2.1.length : Int) then (if (((rd_T45 bt254.2.1 0).f0) == 0 && (((rd_T45 bt254.2.1 0).f1) == 2 && (((rd_T45 bt254.2.1 0).f2) == 1 && (((rd_T45 bt254.2.1 0).f3) == 0)))) = true then (if (bt254.2.2.1.length : Int) = 0 then (if bt280.2.2.2.isNone = true then (if (bt280.2.1.length : Int) = 0 then (if (bt280.2.2.1.length : Int) = 1 then (if bt298.1 = 1 then (if bt298.2.1 = 0 then (some bt298.2.2) else none) else none) else none) else none) else none) else none) else none) else (none)) else none) else none) else (none)) else none) else none))))) else (none))))) = some r := h
  clear h
  obtain ⟨y240, hy240⟩ : ∃ y_ : List ByteArray, y_ = (([(⟨#[97, 10]⟩ : ByteArray), (⟨#[98, 10]⟩ : ByteArray), (⟨#[99, 10]⟩ : ByteArray), (⟨#[100, 10]⟩ : ByteArray)] : List ByteArray)) := ⟨_, rfl⟩
  replace H : ((selvagelaw17_one.f 1).bind fun bt243 => ((apply_Apply.f k y240 (([(⟨bt243.1, bt243.2.1, bt243.2.2.1, bt243.2.2.2.1, bt243.2.2.2.2.1, bt243.2.2.2.2.2⟩ : S41)] : List (S41))) 0).bind fun bt254 => (if 2 ≤ (y240.length : Int) then ((selvagelaw17_one.f 1).bind fun bt269 => ((apply_Apply.f k (y240.take 2) (([(⟨bt269.1, bt269.2.1, bt269.2.2.1, bt269.2.2.2.1, bt269.2.2.2.2.1, bt269.2.2.2.2.2⟩ : S41)] : List (S41))) 0).bind fun bt280 => ((selvagelaw17_one.f 2).bind fun bt290 => ((apply_Find.f k y240 bt290.1 bt290.2.1 bt290.2.2.1 bt290.2.2.2.1 bt290.2.2.2.2.1 bt290.2.2.2.2.2 0 0 0).bind fun bt298 => (if bt254.2.2.2.isNone = true then (if (bt254.1.length : Int) = 4 then (if 2 < (bt254.1.length : Int) then (if (rdOf ByteArray.empty bt254.1 2).toList = ([120, 10] : List UInt8) then (if (bt254.2.1.length : Int) = 1 then (if 0 < (bt254.2.1.length : Int) then (if (((rd_T45 bt254.2.1 0).f0) == 0 && (((rd_T45 bt254.2.1 0).f1) == 2 && (((rd_T45 bt254.2.1 0).f2) == 1 && (((rd_T45 bt254.2.1 0).f3) == 0)))) = true then (if (bt254.2.2.1.length : Int) = 0 then (if bt280.2.2.2.isNone = true then (if (bt280.2.1.length : Int) = 0 then (if (bt280.2.2.1.length : Int) = 1 then (if bt298.1 = 1 then (if bt298.2.1 = 0 then (some bt298.2.2) else none) else none) else none) else none) else none) else none) else none) else (none)) else none) else none) else (none)) else none) else none))))) else (none)))) = some r := by first | (rw [hy240]; with_reducible exact H) | (have H2_ := (Option.bind_some _ _).symm.trans H; rw [hy240]; with_reducible exact H2_) | (have H2_ := (Option.bind_some _ _).symm.trans H; with_reducible exact H2_) | with_reducible exact H | (rw [hy240]; exact H) | exact H
  have Ny240 := Aside0.mk hy240
  clear hy240
  replace H := Option.bind_eq_some_iff.mp H
  obtain ⟨⟨t243, t244, t245, t246, t247, t248⟩, A10, H⟩ := H
  replace H : ((apply_Apply.f k y240 (([(⟨t243, t244, t245, t246, t247, t248⟩ : S41)] : List (S41))) 0).bind fun bt254 => (if 2 ≤ (y240.length : Int) then ((selvagelaw17_one.f 1).bind fun bt269 => ((apply_Apply.f k (y240.take 2) (([(⟨bt269.1, bt269.2.1, bt269.2.2.1, bt269.2.2.2.1, bt269.2.2.2.2.1, bt269.2.2.2.2.2⟩ : S41)] : List (S41))) 0).bind fun bt280 => ((selvagelaw17_one.f 2).bind fun bt290 => ((apply_Find.f k y240 bt290.1 bt290.2.1 bt290.2.2.1 bt290.2.2.2.1 bt290.2.2.2.2.1 bt290.2.2.2.2.2 0 0 0).bind fun bt298 => (if bt254.2.2.2.isNone = true then (if (bt254.1.length : Int) = 4 then (if 2 < (bt254.1.length : Int) then (if (rdOf ByteArray.empty bt254.1 2).toList = ([120, 10] : List UInt8) then (if (bt254.2.1.length : Int) = 1 then (if 0 < (bt254.2.1.length : Int) then (if (((rd_T45 bt254.2.1 0).f0) == 0 && (((rd_T45 bt254.2.1 0).f1) == 2 && (((rd_T45 bt254.2.1 0).f2) == 1 && (((rd_T45 bt254.2.1 0).f3) == 0)))) = true then (if (bt254.2.2.1.length : Int) = 0 then (if bt280.2.2.2.isNone = true then (if (bt280.2.1.length : Int) = 0 then (if (bt280.2.2.1.length : Int) = 1 then (if bt298.1 = 1 then (if bt298.2.1 = 0 then (some bt298.2.2) else none) else none) else none) else none) else none) else none) else none) else (none)) else none) else none) else (none)) else none) else none))))) else (none))) = some r := H
  have A1 := Aside0.mk A10
  clear A10
  obtain ⟨y251, hy251⟩ : ∃ y_ : List (S41), y_ = (([(⟨t243, t244, t245, t246, t247, t248⟩ : S41)] : List (S41))) := ⟨_, rfl⟩
  replace H : ((apply_Apply.f k y240 y251 0).bind fun bt254 => (if 2 ≤ (y240.length : Int) then ((selvagelaw17_one.f 1).bind fun bt269 => ((apply_Apply.f k (y240.take 2) (([(⟨bt269.1, bt269.2.1, bt269.2.2.1, bt269.2.2.2.1, bt269.2.2.2.2.1, bt269.2.2.2.2.2⟩ : S41)] : List (S41))) 0).bind fun bt280 => ((selvagelaw17_one.f 2).bind fun bt290 => ((apply_Find.f k y240 bt290.1 bt290.2.1 bt290.2.2.1 bt290.2.2.2.1 bt290.2.2.2.2.1 bt290.2.2.2.2.2 0 0 0).bind fun bt298 => (if bt254.2.2.2.isNone = true then (if (bt254.1.length : Int) = 4 then (if 2 < (bt254.1.length : Int) then (if (rdOf ByteArray.empty bt254.1 2).toList = ([120, 10] : List UInt8) then (if (bt254.2.1.length : Int) = 1 then (if 0 < (bt254.2.1.length : Int) then (if (((rd_T45 bt254.2.1 0).f0) == 0 && (((rd_T45 bt254.2.1 0).f1) == 2 && (((rd_T45 bt254.2.1 0).f2) == 1 && (((rd_T45 bt254.2.1 0).f3) == 0)))) = true then (if (bt254.2.2.1.length : Int) = 0 then (if bt280.2.2.2.isNone = true then (if (bt280.2.1.length : Int) = 0 then (if (bt280.2.2.1.length : Int) = 1 then (if bt298.1 = 1 then (if bt298.2.1 = 0 then (some bt298.2.2) else none) else none) else none) else none) else none) else none) else none) else (none)) else none) else none) else (none)) else none) else none))))) else (none))) = some r := by first | (rw [hy251]; with_reducible exact H) | (have H2_ := (Option.bind_some _ _).symm.trans H; rw [hy251]; with_reducible exact H2_) | (have H2_ := (Option.bind_some _ _).symm.trans H; with_reducible exact H2_) | with_reducible exact H | (rw [hy251]; exact H) | exact H
  have Ny251 := Aside0.mk hy251
  clear hy251
  replace H := Option.bind_eq_some_iff.mp H
  obtain ⟨⟨t254, t255, t256, t257⟩, A20, H⟩ := H
  replace H : (if 2 ≤ (y240.length : Int) then ((selvagelaw17_one.f 1).bind fun bt269 => ((apply_Apply.f k (y240.take 2) (([(⟨bt269.1, bt269.2.1, bt269.2.2.1, bt269.2.2.2.1, bt269.2.2.2.2.1, bt269.2.2.2.2.2⟩ : S41)] : List (S41))) 0).bind fun bt280 => ((selvagelaw17_one.f 2).bind fun bt290 => ((apply_Find.f k y240 bt290.1 bt290.2.1 bt290.2.2.1 bt290.2.2.2.1 bt290.2.2.2.2.1 bt290.2.2.2.2.2 0 0 0).bind fun bt298 => (if t257.isNone = true then (if (t254.length : Int) = 4 then (if 2 < (t254.length : Int) then (if (rdOf ByteArray.empty t254 2).toList = ([120, 10] : List UInt8) then (if (t255.length : Int) = 1 then (if 0 < (t255.length : Int) then (if (((rd_T45 t255 0).f0) == 0 && (((rd_T45 t255 0).f1) == 2 && (((rd_T45 t255 0).f2) == 1 && (((rd_T45 t255 0).f3) == 0)))) = true then (if (t256.length : Int) = 0 then (if bt280.2.2.2.isNone = true then (if (bt280.2.1.length : Int) = 0 then (if (bt280.2.2.1.length : Int) = 1 then (if bt298.1 = 1 then (if bt298.2.1 = 0 then (some bt298.2.2) else none) else none) else none) else none) else none) else none) else none) else (none)) else none) else none) else (none)) else none) else none))))) else (none)) = some r := H
  have A2 := Aside0.mk A20
  clear A20
  by_cases c3 : 2 ≤ (y240.length : Int)
  · rw [if_pos c3] at H
    have c3b0 := eq_true c3
    have c3b1 : decide (2 ≤ (y240.length : Int)) = true := decide_eq_true c3
    clear c3
    obtain ⟨y264, hy264⟩ : ∃ y_ : List ByteArray, y_ = (y240.take 2) := ⟨_, rfl⟩
    replace H : ((selvagelaw17_one.f 1).bind fun bt269 => ((apply_Apply.f k y264 (([(⟨bt269.1, bt269.2.1, bt269.2.2.1, bt269.2.2.2.1, bt269.2.2.2.2.1, bt269.2.2.2.2.2⟩ : S41)] : List (S41))) 0).bind fun bt280 => ((selvagelaw17_one.f 2).bind fun bt290 => ((apply_Find.f k y240 bt290.1 bt290.2.1 bt290.2.2.1 bt290.2.2.2.1 bt290.2.2.2.2.1 bt290.2.2.2.2.2 0 0 0).bind fun bt298 => (if t257.isNone = true then (if (t254.length : Int) = 4 then (if 2 < (t254.length : Int) then (if (rdOf ByteArray.empty t254 2).toList = ([120, 10] : List UInt8) then (if (t255.length : Int) = 1 then (if 0 < (t255.length : Int) then (if (((rd_T45 t255 0).f0) == 0 && (((rd_T45 t255 0).f1) == 2 && (((rd_T45 t255 0).f2) == 1 && (((rd_T45 t255 0).f3) == 0)))) = true then (if (t256.length : Int) = 0 then (if bt280.2.2.2.isNone = true then (if (bt280.2.1.length : Int) = 0 then (if (bt280.2.2.1.length : Int) = 1 then (if bt298.1 = 1 then (if bt298.2.1 = 0 then (some bt298.2.2) else none) else none) else none) else none) else none) else none) else none) else (none)) else none) else none) else (none)) else none) else none))))) = some r := by first | (rw [hy264]; with_reducible exact H) | (have H2_ := (Option.bind_some _ _).symm.trans H; rw [hy264]; with_reducible exact H2_) | (have H2_ := (Option.bind_some _ _).symm.trans H; with_reducible exact H2_) | with_reducible exact H | (rw [hy264]; exact H) | exact H
    have Ny264 := Aside0.mk hy264
    clear hy264
    replace H := Option.bind_eq_some_iff.mp H
    obtain ⟨⟨t269, t270, t271, t272, t273, t274⟩, A40, H⟩ := H
    replace H : ((apply_Apply.f k y264 (([(⟨t269, t270, t271, t272, t273, t274⟩ : S41)] : List (S41))) 0).bind fun bt280 => ((selvagelaw17_one.f 2).bind fun bt290 => ((apply_Find.f k y240 bt290.1 bt290.2.1 bt290.2.2.1 bt290.2.2.2.1 bt290.2.2.2.2.1 bt290.2.2.2.2.2 0 0 0).bind fun bt298 => (if t257.isNone = true then (if (t254.length : Int) = 4 then (if 2 < (t254.length : Int) then (if (rdOf ByteArray.empty t254 2).toList = ([120, 10] : List UInt8) then (if (t255.length : Int) = 1 then (if 0 < (t255.length : Int) then (if (((rd_T45 t255 0).f0) == 0 && (((rd_T45 t255 0).f1) == 2 && (((rd_T45 t255 0).f2) == 1 && (((rd_T45 t255 0).f3) == 0)))) = true then (if (t256.length : Int) = 0 then (if bt280.2.2.2.isNone = true then (if (bt280.2.1.length : Int) = 0 then (if (bt280.2.2.1.length : Int) = 1 then (if bt298.1 = 1 then (if bt298.2.1 = 0 then (some bt298.2.2) else none) else none) else none) else none) else none) else none) else none) else (none)) else none) else none) else (none)) else none) else none)))) = some r := H
    have A4 := Aside0.mk A40
    clear A40
    obtain ⟨y277, hy277⟩ : ∃ y_ : List (S41), y_ = (([(⟨t269, t270, t271, t272, t273, t274⟩ : S41)] : List (S41))) := ⟨_, rfl⟩
    replace H : ((apply_Apply.f k y264 y277 0).bind fun bt280 => ((selvagelaw17_one.f 2).bind fun bt290 => ((apply_Find.f k y240 bt290.1 bt290.2.1 bt290.2.2.1 bt290.2.2.2.1 bt290.2.2.2.2.1 bt290.2.2.2.2.2 0 0 0).bind fun bt298 => (if t257.isNone = true then (if (t254.length : Int) = 4 then (if 2 < (t254.length : Int) then (if (rdOf ByteArray.empty t254 2).toList = ([120, 10] : List UInt8) then (if (t255.length : Int) = 1 then (if 0 < (t255.length : Int) then (if (((rd_T45 t255 0).f0) == 0 && (((rd_T45 t255 0).f1) == 2 && (((rd_T45 t255 0).f2) == 1 && (((rd_T45 t255 0).f3) == 0)))) = true then (if (t256.length : Int) = 0 then (if bt280.2.2.2.isNone = true then (if (bt280.2.1.length : Int) = 0 then (if (bt280.2.2.1.length : Int) = 1 then (if bt298.1 = 1 then (if bt298.2.1 = 0 then (some bt298.2.2) else none) else none) else none) else none) else none) else none) else none) else (none)) else none) else none) else (none)) else none) else none)))) = some r := by first | (rw [hy277]; with_reducible exact H) | (have H2_ := (Option.bind_some _ _).symm.trans H; rw [hy277]; with_reducible exact H2_) | (have H2_ := (Option.bind_some _ _).symm.trans H; with_reducible exact H2_) | with_reducible exact H | (rw [hy277]; exact H) | exact H
    have Ny277 := Aside0.mk hy277
    clear hy277
    replace H := Option.bind_eq_some_iff.mp H
    obtain ⟨⟨t280, t281, t282, t283⟩, A50, H⟩ := H
    replace H : ((selvagelaw17_one.f 2).bind fun bt290 => ((apply_Find.f k y240 bt290.1 bt290.2.1 bt290.2.2.1 bt290.2.2.2.1 bt290.2.2.2.2.1 bt290.2.2.2.2.2 0 0 0).bind fun bt298 => (if t257.isNone = true then (if (t254.length : Int) = 4 then (if 2 < (t254.length : Int) then (if (rdOf ByteArray.empty t254 2).toList = ([120, 10] : List UInt8) then (if (t255.length : Int) = 1 then (if 0 < (t255.length : Int) then (if (((rd_T45 t255 0).f0) == 0 && (((rd_T45 t255 0).f1) == 2 && (((rd_T45 t255 0).f2) == 1 && (((rd_T45 t255 0).f3) == 0)))) = true then (if (t256.length : Int) = 0 then (if t283.isNone = true then (if (t281.length : Int) = 0 then (if (t282.length : Int) = 1 then (if bt298.1 = 1 then (if bt298.2.1 = 0 then (some bt298.2.2) else none) else none) else none) else none) else none) else none) else none) else (none)) else none) else none) else (none)) else none) else none))) = some r := H
    have A5 := Aside0.mk A50
    clear A50
    replace H := Option.bind_eq_some_iff.mp H
    obtain ⟨⟨t290, t291, t292, t293, t294, t295⟩, A60, H⟩ := H
    replace H : ((apply_Find.f k y240 t290 t291 t292 t293 t294 t295 0 0 0).bind fun bt298 => (if t257.isNone = true then (if (t254.length : Int) = 4 then (if 2 < (t254.length : Int) then (if (rdOf ByteArray.empty t254 2).toList = ([120, 10] : List UInt8) then (if (t255.length : Int) = 1 then (if 0 < (t255.length : Int) then (if (((rd_T45 t255 0).f0) == 0 && (((rd_T45 t255 0).f1) == 2 && (((rd_T45 t255 0).f2) == 1 && (((rd_T45 t255 0).f3) == 0)))) = true then (if (t256.length : Int) = 0 then (if t283.isNone = true then (if (t281.length : Int) = 0 then (if (t282.length : Int) = 1 then (if bt298.1 = 1 then (if bt298.2.1 = 0 then (some bt298.2.2) else none) else none) else none) else none) else none) else none) else none) else (none)) else none) else none) else (none)) else none) else none)) = some r := H
    have A6 := Aside0.mk A60
    clear A60
    replace H := Option.bind_eq_some_iff.mp H
    obtain ⟨⟨t298, t299, t300⟩, A70, H⟩ := H
    replace H : (if t257.isNone = true then (if (t254.length : Int) = 4 then (if 2 < (t254.length : Int) then (if (rdOf ByteArray.empty t254 2).toList = ([120, 10] : List UInt8) then (if (t255.length : Int) = 1 then (if 0 < (t255.length : Int) then (if (((rd_T45 t255 0).f0) == 0 && (((rd_T45 t255 0).f1) == 2 && (((rd_T45 t255 0).f2) == 1 && (((rd_T45 t255 0).f3) == 0)))) = true then (if (t256.length : Int) = 0 then (if t283.isNone = true then (if (t281.length : Int) = 0 then (if (t282.length : Int) = 1 then (if t298 = 1 then (if t299 = 0 then (some t300) else none) else none) else none) else none) else none) else none) else none) else (none)) else none) else none) else (none)) else none) else none) = some r := H
    have A7 := Aside0.mk A70
    clear A70
    rcases t257 with _ | q301
    · have H1 : (if (t254.length : Int) = 4 then (if 2 < (t254.length : Int) then (if (rdOf ByteArray.empty t254 2).toList = ([120, 10] : List UInt8) then (if (t255.length : Int) = 1 then (if 0 < (t255.length : Int) then (if (((rd_T45 t255 0).f0) == 0 && (((rd_T45 t255 0).f1) == 2 && (((rd_T45 t255 0).f2) == 1 && (((rd_T45 t255 0).f3) == 0)))) = true then (if (t256.length : Int) = 0 then (if t283.isNone = true then (if (t281.length : Int) = 0 then (if (t282.length : Int) = 1 then (if t298 = 1 then (if t299 = 0 then (some t300) else none) else none) else none) else none) else none) else none) else none) else (none)) else none) else none) else (none)) else none) = some r := by rw [if_pos (show (none : Option Int).isNone = true by rfl)] at H; exact H
      clear H
      have H := H1
      clear H1
      try simp only [errW_none, errW_some]
      by_cases c8 : (t254.length : Int) = 4
      · rw [if_pos c8] at H
        have c8b0 : ((t254.length : Int) == 4) = true := beq_iff_eq.mpr c8
        have c8b1 : ((t254.length : Int) != 4) = false := bne_eq_false_iff_eq.mpr c8
        clear c8
        by_cases c9 : 2 < (t254.length : Int)
        · rw [if_pos c9] at H
          have c9b0 : decide (2 < (t254.length : Int)) = true := decide_eq_true c9
          have c9b1 : decide (2 < t254.length) = true := decide_eq_true (by omega)
          clear c9
          by_cases c10 : (rdOf ByteArray.empty t254 2).toList = ([120, 10] : List UInt8)
          · rw [if_pos c10] at H
            have c10b0 : ((rdOf ByteArray.empty t254 2).toList == ([120, 10] : List UInt8)) = true := beq_iff_eq.mpr c10
            have c10b1 : ((rdOf ByteArray.empty t254 2).toList != ([120, 10] : List UInt8)) = false := bne_eq_false_iff_eq.mpr c10
            clear c10
            by_cases c11 : (t255.length : Int) = 1
            · rw [if_pos c11] at H
              have c11b0 : ((t255.length : Int) == 1) = true := beq_iff_eq.mpr c11
              have c11b1 : ((t255.length : Int) != 1) = false := bne_eq_false_iff_eq.mpr c11
              clear c11
              by_cases c12 : 0 < (t255.length : Int)
              · rw [if_pos c12] at H
                have c12b0 : decide (0 < (t255.length : Int)) = true := decide_eq_true c12
                have c12b1 : decide (0 < t255.length) = true := decide_eq_true (by omega)
                clear c12
                by_cases c13 : (((rd_T45 t255 0).f0) == 0 && (((rd_T45 t255 0).f1) == 2 && (((rd_T45 t255 0).f2) == 1 && (((rd_T45 t255 0).f3) == 0)))) = true
                · rw [if_pos c13] at H
                  have c13b0 : (((rd_T45 t255 0).f0) == 0 && (((rd_T45 t255 0).f1) == 2 && (((rd_T45 t255 0).f2) == 1 && (((rd_T45 t255 0).f3) == 0)))) = true := c13
                  (try (have c13b1 : decide (((rd_T45 t255 0).f0) = 0 && (((rd_T45 t255 0).f1) == 2 && (((rd_T45 t255 0).f2) == 1 && (((rd_T45 t255 0).f3) == 0)))) = true := by simpa using c13))
                  (try (have c13b2 : (((rd_T45 t255 0).f0) == 0 && (((rd_T45 t255 0).f1) == 2 && (((rd_T45 t255 0).f2) == 1 && (((rd_T45 t255 0).f3) == 0)))) = true := by simpa using c13))
                  clear c13
                  by_cases c14 : (t256.length : Int) = 0
                  · rw [if_pos c14] at H
                    have c14b0 : ((t256.length : Int) == 0) = true := beq_iff_eq.mpr c14
                    have c14b1 : ((t256.length : Int) != 0) = false := bne_eq_false_iff_eq.mpr c14
                    clear c14
                    rcases t283 with _ | q304
                    · have H1 : (if (t281.length : Int) = 0 then (if (t282.length : Int) = 1 then (if t298 = 1 then (if t299 = 0 then (some t300) else none) else none) else none) else none) = some r := by rw [if_pos (show (none : Option Int).isNone = true by rfl)] at H; exact H
                      clear H
                      have H := H1
                      clear H1
                      try simp only [errW_none, errW_some]
                      by_cases c15 : (t281.length : Int) = 0
                      · rw [if_pos c15] at H
                        have c15b0 : ((t281.length : Int) == 0) = true := beq_iff_eq.mpr c15
                        have c15b1 : ((t281.length : Int) != 0) = false := bne_eq_false_iff_eq.mpr c15
                        clear c15
                        by_cases c16 : (t282.length : Int) = 1
                        · rw [if_pos c16] at H
                          have c16b0 : ((t282.length : Int) == 1) = true := beq_iff_eq.mpr c16
                          have c16b1 : ((t282.length : Int) != 1) = false := bne_eq_false_iff_eq.mpr c16
                          clear c16
                          by_cases c17 : t298 = 1
                          · rw [if_pos c17] at H
                            have c17b0 : (t298 == 1) = true := beq_iff_eq.mpr c17
                            have c17b1 : (t298 != 1) = false := bne_eq_false_iff_eq.mpr c17
                            clear c17
                            by_cases c18 : t299 = 0
                            · rw [if_pos c18] at H
                              have c18b0 : (t299 == 0) = true := beq_iff_eq.mpr c18
                              have c18b1 : (t299 != 0) = false := bne_eq_false_iff_eq.mpr c18
                              clear c18
                              obtain rfl := Option.some.inj H
                              go_enter Try.func8, Try.ntmps8
                              try simp only [List.append_eq, List.cons_append, List.nil_append]
                              try go_wp2_with (first | ((with_reducible refine gate_dst (N := 13) rfl ?_); (try (refine gate_guard (by rfl) ?_; dsimp only)); refine Kd.R_lit Kd.string _ 9 ?hg (N := 13) ?hd (xs := ([(⟨#[97, 10]⟩ : ByteArray), (⟨#[98, 10]⟩ : ByteArray), (⟨#[99, 10]⟩ : ByteArray), (⟨#[100, 10]⟩ : ByteArray)] : List ByteArray)) (inner := [.string (⟨#[97, 10]⟩ : ByteArray), .string (⟨#[98, 10]⟩ : ByteArray), .string (⟨#[99, 10]⟩ : ByteArray), .string (⟨#[100, 10]⟩ : ByteArray)]) (ok := fun _ => True) (okp := fun _ => True) ?hr ?hp (fun _ hk => hk) trivial (Below.refl _ _) (Nat.le_refl _) (by simp) ?_; (case hd => rfl); (case hg => rfl); (case hr => first | (go_simp; done) | (go_simp; rfl)); (case hp => exact (Reps.one (show Kd.M Kd.string _ _ _ (⟨#[97, 10]⟩ : ByteArray) [.string (⟨#[97, 10]⟩ : ByteArray)] from rfl) (Reps.one (show Kd.M Kd.string _ _ _ (⟨#[98, 10]⟩ : ByteArray) [.string (⟨#[98, 10]⟩ : ByteArray)] from rfl) (Reps.one (show Kd.M Kd.string _ _ _ (⟨#[99, 10]⟩ : ByteArray) [.string (⟨#[99, 10]⟩ : ByteArray)] from rfl) (Reps.one (show Kd.M Kd.string _ _ _ (⟨#[100, 10]⟩ : ByteArray) [.string (⟨#[100, 10]⟩ : ByteArray)] from rfl) (Reps.none _ _)))))); intro v241 w19 ho20 hb hg_ hnew_; clear hg_ hnew_; (first | rw [← Ny240.out] at ho20 | (simp only [Int.reduceToNat] at ho20; rw [← Ny240.out] at ho20)); have n0_ := Aside0.mk (Kd.R_lower ho20 (below_size (by repeat (first | (with_reducible first | exact HB.out | apply below_alloc | apply pw_below_drewN | apply below_drew1) | exact HB.out)))); have n1_ := Aside0.mk (below_step (by repeat (first | (with_reducible first | exact HB.out | apply below_alloc | apply pw_below_drewN | apply below_drew1) | exact HB.out)) hb); clear HB; have HO242 := n0_; have HB := n1_; clear n0_ n1_; clear hb ho20) | ((with_reducible refine gate_callee (f := 21) rfl ?_); refine goesL_ (some 16) rfl rfl Try.func21 (by kernel_rfl) rfl #[.int .i64 1] rfl (by (try simp only [List.map_toArray, List.map_cons, List.map_nil]); first | done | rfl | (simp only [List.length_drop, List.length_take]; rfl)) ?_; (with_reducible refine (selvagelaw17_one.calls 1 t243 t244 t245 t246 t247 t248 _ A1.out).mono ?_); rintro e w21 ⟨v249, rfl, ho0, hb⟩; refine ⟨_, rfl, ?_⟩; have n0_ := Aside0.mk (Kd.R_below (by (with_reducible repeat (first | apply Kd.R_alloc | apply Kd.R_drewN | apply Kd.R_drew)); exact HO242.out) hb); have n1_ := Aside0.mk (Kd.R_lower ho0 (below_size (by repeat (first | (with_reducible first | exact HB.out | apply below_alloc | apply pw_below_drewN | apply below_drew1) | exact HB.out)))); have n2_ := Aside0.mk (below_step (by repeat (first | (with_reducible first | exact HB.out | apply below_alloc | apply pw_below_drewN | apply below_drew1) | exact HB.out)) hb); clear HO242; clear HB; have HO242 := n0_; have HO250 := n1_; have HB := n2_; clear n0_ n1_ n2_; (try clear hb); (try clear hb2); (try clear hk); (try clear hi); (try clear ho0); obtain ⟨Ao22, co22, eo22⟩ := Kd.R_slice HO250.out; subst eo22) | ((with_reducible refine gate_dst (N := 17) rfl ?_); (try (refine gate_guard (by rfl) ?_; dsimp only)); refine Kd.N_lit k41 _ 41 ?hg (N' := 17) ?hd (xs := ([(⟨t243, t244, t245, t246, t247, t248⟩ : S41)] : List (S41))) (inner := [.int .i64 t243, .int .i64 t244, .int .i64 t245, .int .i64 t246, .string t247, .slice Ao22 t248.length co22]) (ok := (fun k_ => some k_ ≠ (v241 : Value).ownBlock)) (okp := (fun k_ => some k_ ≠ (v241 : Value).ownBlock)) ?hr ?hp (fun _ hk => hk) ((show ∀ k_, w21.heap.size ≤ k_ → (fun k_ => some k_ ≠ (v241 : Value).ownBlock) k_ from fun k_ hk => Kd.fresh' (Kd.R_lt (by (with_reducible repeat (first | apply Kd.R_alloc | apply Kd.R_drewN | apply Kd.R_drew)); exact HO242.out)) k_ hk) _ (Nat.le_refl _)) (Below.refl _ _) (Nat.le_refl _) (by simp) ?_; (case hd => rfl); (case hg => rfl); (case hr => first | (go_simp; done) | (go_simp; rfl)); (case hp => exact (Reps.c6 (show Kd.FK k41 _ _ (⟨t243, t244, t245, t246, t247, t248⟩ : S41) [.int .i64 t243, .int .i64 t244, .int .i64 t245, .int .i64 t246, .string t247, .slice Ao22 t248.length co22] from (k41_mkF _ _ (⟨t243, t244, t245, t246, t247, t248⟩ : S41) (Kd.R_reads' (Kd.R_mono (ok' := (fun k_ => some k_ ≠ (v241 : Value).ownBlock)) (Kd.R_apart' (HO250.out) (Kd.R_typed HO242.out) (by decide)) (fun k_ hk => hk.2))).2.1 (Kd.R_F (Kd.R_mono (ok' := (fun k_ => some k_ ≠ (v241 : Value).ownBlock)) (Kd.R_apart' (HO250.out) (Kd.R_typed HO242.out) (by decide)) (fun k_ hk => hk.2))))) (Reps.none _ _))); intro v252 w23 ho24 hb hg_ hnew_; clear hg_ hnew_; (first | rw [← Ny251.out] at ho24 | (simp only [Int.reduceToNat] at ho24; rw [← Ny251.out] at ho24)); have n0_ := Aside0.mk (Kd.R_below (by (with_reducible repeat (first | apply Kd.R_alloc | apply Kd.R_drewN | apply Kd.R_drew)); exact HO242.out) hb); have n1_ := Aside0.mk (Kd.N_lower ho24 (below_size (by repeat (first | (with_reducible first | exact HB.out | apply below_alloc | apply pw_below_drewN | apply below_drew1) | exact HB.out)))); have n2_ := Aside0.mk (below_step (by repeat (first | (with_reducible first | exact HB.out | apply below_alloc | apply pw_below_drewN | apply below_drew1) | exact HB.out)) hb); clear HO242; clear HB; clear HO250; have HO242 := n0_; have HO253 := n1_; have HB := n2_; clear n0_ n1_ n2_; clear hb ho24; obtain ⟨Ao25, co25, eo25⟩ := Kd.R_slice HO242.out; subst eo25; obtain ⟨Ao26, co26, eo26⟩ := Kd.N_slice HO253.out; subst eo26) | ((with_reducible refine gate_callee (f := 9) rfl ?_); refine goesL_ (some 18) rfl rfl Try.func9 (by kernel_rfl) rfl #[.slice Ao25 y240.length co25, .slice Ao26 y251.length co26, .int .i64 0] rfl (by (try simp only [List.map_toArray, List.map_cons, List.map_nil]); first | done | rfl | (simp only [List.length_drop, List.length_take]; rfl)) ?_; (with_reducible refine (apply_Apply.calls k _ _ y240 _ _ y251 0 t254 t255 t256 none _ ?side1 ?side2 ?side3 ?side4 A2.out).mono ?_); (case side1 => repeat (first | exact (Kd.R_reads' HO242.out).2.2 | (with_reducible refine Kd.C_alloc ?_ _) | (with_reducible refine Kd.C_drewN ?_ _) | (with_reducible refine Kd.C_drew ?_))); (case side2 => exact (Kd.R_reads' HO242.out).2.1); (case side3 => repeat (first | exact (Kd.N_reads' HO253.out).2.2 | (with_reducible refine Kd.C_alloc ?_ _) | (with_reducible refine Kd.C_drewN ?_ _) | (with_reducible refine Kd.C_drew ?_))); (case side4 => exact (Kd.N_reads' HO253.out).2.1); rintro e w27 ⟨v258, v260, v262, rfl, ho0, ho1, ho2, hb⟩; refine ⟨_, rfl, ?_⟩; have n0_ := Aside0.mk (Kd.R_elder' (by (with_reducible repeat (first | apply Kd.R_alloc | apply Kd.R_drewN | apply Kd.R_drew)); exact HO242.out) (Kd.R_base ho0) hb); have n1_ := Aside0.mk (Kd.N_mono (Kd.N_told (Kd.N_told (Kd.N_told (Kd.N_old (by (with_reducible repeat (first | apply Kd.N_alloc | apply Kd.N_drewN | apply Kd.N_drew)); exact HO253.out) hb) (Kd.R_base ho0)) (Kd.R_base ho1)) (Kd.R_base ho2)) (fun _ h_ => h_.1)); have n2_ := Aside0.mk (Kd.R_lower (Kd.R_new' ho0 (Kd.R_lt (by (with_reducible repeat (first | apply Kd.R_alloc | apply Kd.R_drewN | apply Kd.R_drew)); exact HO242.out))) (below_size (by repeat (first | (with_reducible first | exact HB.out | apply below_alloc | apply pw_below_drewN | apply below_drew1) | exact HB.out)))); have n3_ := Aside0.mk (Kd.R_lower ho1 (below_size (by repeat (first | (with_reducible first | exact HB.out | apply below_alloc | apply pw_below_drewN | apply below_drew1) | exact HB.out)))); have n4_ := Aside0.mk (Kd.R_lower ho2 (below_size (by repeat (first | (with_reducible first | exact HB.out | apply below_alloc | apply pw_below_drewN | apply below_drew1) | exact HB.out)))); have n5_ := Aside0.mk (below_step (by repeat (first | (with_reducible first | exact HB.out | apply below_alloc | apply pw_below_drewN | apply below_drew1) | exact HB.out)) hb); clear HO242; clear HO253; clear HB; have HO242 := n0_; have HO253 := n1_; have HO259 := n2_; have HO261 := n3_; have HO263 := n4_; have HB := n5_; clear n0_ n1_ n2_ n3_ n4_ n5_; (try clear hb); (try clear hb2); (try clear hk); (try clear hi); (try clear ho0); (try clear ho1); (try clear ho2); (try simp only [errW_none, errW_some])))
                              have n0_ := Aside0.mk (Kd.R_drew HO242.out)
                              have n1_ := Aside0.mk (Kd.N_drew HO253.out)
                              have n2_ := Aside0.mk (Kd.R_drew HO259.out)
                              have n3_ := Aside0.mk (Kd.R_drew HO261.out)
                              have n4_ := Aside0.mk (Kd.R_drew HO263.out)
                              have n5_ := Aside0.mk (below_drew1 HB.out)
                              clear HO242
                              clear HO253
                              clear HO259
                              clear HO261
                              clear HO263
                              clear HB
                              have HO242 := n0_
                              have HO253 := n1_
                              have HO259 := n2_
                              have HO261 := n3_
                              have HO263 := n4_
                              have HB := n5_
                              clear n0_ n1_ n2_ n3_ n4_ n5_
                              have q29 : (2 : Int) ≤ ((y240.length : Int) : Int) := of_decide_eq_true (by first | (with_reducible assumption) | assumption)
                              obtain ⟨i029, hi029, _, hsz29, _⟩ := info_parts info9
                              have hroom29 : y240.length ≤ co25 := (Kd.R_reads' HO242.out).2.1
                              have hC29 : Kd.F Kd.string _ _ Ao25 y240.length y240 := (Kd.V_at (base := w.heap.size) (Kd.R_V (Kd.R_apart' (Kd.R_apart' (Kd.R_apart' (HO242.out) (Kd.N_typed HO253.out) (by decide)) (Kd.R_typed HO261.out) (by decide)) (Kd.R_typed HO263.out) (by decide)))).2.2
                              have hcut29 := cut_to (P := Try.prog) 23 9 .i64 Try.underlying23 hi029 Ao25 y240.length co25 2 (by omega) q29 hroom29
                              have hr29 := Kd.F_take (m := 2) hC29 (by omega)
                              have hy29 : y264.length = (2 : Int).toNat := (by rw [Ny264.out, List.length_take]; omega)
                              rw [← Ny264.out] at hr29
                              rw [← hy29] at hcut29
                              have HO268 := Aside0.mk (show Kd.V Kd.string 9 _ w.heap.size _ (.slice Ao25 y264.length co25) y264 from Kd.V_mk (by omega) hr29)
                              have HC268 := Aside0.mk (show y264.length ≤ co25 from by omega)
                              clear hr29 hC29 hroom29 hi029 hsz29
                              have KY29 := Aside0.mk hy29
                              clear hy29
                              replace q29 := eq_true q29
                              refine start_ (n := 14) (S := fun w' => True) (ds := []) #[false, false, false, false, false, false, false, false, false, false, false, false, false, false] (by kernel_rfl) rfl rfl trivial (fun hHeld => ?_); refine with_tabW selvagelaw17_sure.tab3 selvagelaw17_sure.bits3 (fun HT_ HW_ => ?_)
                              generalize w27.drew = w28 at HO242 HO253 HO259 HO261 HO263 HB HO268 hHeld ⊢
                              refine pure_ (i := 0) (N := some 24) (v := ?_) (a' := ?_) #[true, false, false, false, false, false, false, false, false, false, false, false, false, false] rfl rfl (any_of HT_.out (by kernel_rfl)) (fun _ _ _ h => h) (Or.inl ⟨by rfl, ?_⟩) ?_ ?_
                              rotate_left
                              · intro w'
                                go_simp
                                with_reducible rfl
                              rotate_left
                              · simp only [Act.put, List.setIfInBounds_toArray, List.set_cons_zero, List.set_cons_succ, i64_w, i32_w]
                                rfl
                              refine pure_ (i := 1) (N := some 25) (v := ?_) (a' := ?_) #[true, true, false, false, false, false, false, false, false, false, false, false, false, false] rfl rfl (any_of HT_.out (by kernel_rfl)) (fun _ _ _ h => h) (Or.inl ⟨by rfl, ?_⟩) ?_ ?_
                              rotate_left
                              · intro w'
                                go_simp
                                with_reducible rfl
                              rotate_left
                              · simp only [Act.put, List.setIfInBounds_toArray, List.set_cons_zero, List.set_cons_succ, i64_w, i32_w]
                                rfl
                              refine one_ (i := 2) (N := some 26) #[true, true, true, false, false, false, false, false, false, false, false, false, false, false] rfl rfl (one_of HT_.out (by kernel_rfl)) (by decide) (fun K hK => ?_)
                              refine goes_ Try.func21 (by kernel_rfl) rfl #[.int .i64 1] (by rfl) rfl rfl (by (try simp only [List.map_toArray, List.map_cons, List.map_nil]); first | done | rfl | (simp only [List.length_drop, List.length_take]; rfl)) ?_
                              with_reducible refine (selvagelaw17_one.calls 1 t269 t270 t271 t272 t273 t274 _ A4.out).mono ?_
                              rintro e w30 ⟨v275, rfl, ho0, hb⟩
                              refine ⟨_, rfl, ?_⟩
                              have n0_ := Aside0.mk (Kd.R_below (by (with_reducible repeat (first | apply Kd.R_alloc | apply Kd.R_drewN | apply Kd.R_drew)); exact HO242.out) hb)
                              have n1_ := Aside0.mk (Kd.N_elder' (by (with_reducible repeat (first | apply Kd.N_alloc | apply Kd.N_drewN | apply Kd.N_drew)); exact HO253.out) (Kd.R_base ho0) hb)
                              have n2_ := Aside0.mk (Kd.R_below (by (with_reducible repeat (first | apply Kd.R_alloc | apply Kd.R_drewN | apply Kd.R_drew)); exact HO259.out) hb)
                              have n3_ := Aside0.mk (Kd.R_below (by (with_reducible repeat (first | apply Kd.R_alloc | apply Kd.R_drewN | apply Kd.R_drew)); exact HO261.out) hb)
                              have n4_ := Aside0.mk (Kd.R_below (by (with_reducible repeat (first | apply Kd.R_alloc | apply Kd.R_drewN | apply Kd.R_drew)); exact HO263.out) hb)
                              have n5_ := Aside0.mk (Kd.V_elder' (by (with_reducible repeat (first | apply Kd.V_alloc | apply Kd.V_drewN | apply Kd.V_drew)); exact HO268.out) (Kd.R_base ho0) hb)
                              have n6_ := Aside0.mk (Kd.R_lower ho0 (below_size (by repeat (first | (with_reducible first | exact HB.out | apply below_alloc | apply pw_below_drewN | apply below_drew1) | exact HB.out))))
                              have n7_ := Aside0.mk (below_step (by repeat (first | (with_reducible first | exact HB.out | apply below_alloc | apply pw_below_drewN | apply below_drew1) | exact HB.out)) hb)
                              clear HO242
                              clear HO253
                              clear HO259
                              clear HO261
                              clear HO263
                              clear HO268
                              clear HB
                              have HO242 := n0_
                              have HO253 := n1_
                              have HO259 := n2_
                              have HO261 := n3_
                              have HO263 := n4_
                              have HO268 := n5_
                              have HO276 := n6_
                              have HB := n7_
                              clear n0_ n1_ n2_ n3_ n4_ n5_ n6_ n7_
                              (try clear hb)
                              (try clear hb2)
                              (try clear hk)
                              (try clear hi)
                              (try clear ho0)
                              obtain ⟨Ao31, co31, eo31⟩ := Kd.R_slice HO276.out
                              (first | subst eo31 | (injection eo31 with f1_ f2_ f3_; have f4_ := f1_.symm; have f5_ := f3_.symm; clear f1_ f2_ f3_; subst f4_; subst f5_))
                              refine hK.out _ _ trivial (fun hHeld => ?_)
                              clear hK K
                              refine norm_ (a' := ?_) ?_ ?_
                              rotate_left
                              · show Act.put _ (some 26) _ = _
                                simp only [Act.put, List.setIfInBounds_toArray, List.set_cons_zero, List.set_cons_succ, i64_w, i32_w]
                                rfl
                              refine one_ (i := 3) (N := some 27) #[true, true, true, true, false, false, false, false, false, false, false, false, false, false] rfl rfl (one_of HT_.out (by kernel_rfl)) (by decide) (fun K hK => ?_)
                              refine Kd.N_lit_step k41 _ 41 ?hg (N' := 27) ?hd (xs := ([(⟨t269, t270, t271, t272, t273, t274⟩ : S41)] : List (S41))) (inner := [.int .i64 t269, .int .i64 t270, .int .i64 t271, .int .i64 t272, .string t273, .slice Ao31 t274.length co31]) (ok := (fun k_ => some k_ ≠ (.slice Ao25 y240.length co25 : Value).ownBlock ∧ some k_ ≠ (.slice Ao26 y251.length co26 : Value).ownBlock ∧ some k_ ≠ (v258 : Value).ownBlock ∧ some k_ ≠ (v260 : Value).ownBlock ∧ some k_ ≠ (v262 : Value).ownBlock)) (okp := (fun k_ => some k_ ≠ (.slice Ao25 y240.length co25 : Value).ownBlock ∧ some k_ ≠ (.slice Ao26 y251.length co26 : Value).ownBlock ∧ some k_ ≠ (v258 : Value).ownBlock ∧ some k_ ≠ (v260 : Value).ownBlock ∧ some k_ ≠ (v262 : Value).ownBlock)) ?hr ?hp (fun _ hk => hk) ((show ∀ k_, w30.heap.size ≤ k_ → (fun k_ => some k_ ≠ (.slice Ao25 y240.length co25 : Value).ownBlock ∧ some k_ ≠ (.slice Ao26 y251.length co26 : Value).ownBlock ∧ some k_ ≠ (v258 : Value).ownBlock ∧ some k_ ≠ (v260 : Value).ownBlock ∧ some k_ ≠ (v262 : Value).ownBlock) k_ from fun k_ hk => ⟨Kd.fresh' (Kd.R_lt (by (with_reducible repeat (first | apply Kd.R_alloc | apply Kd.R_drewN | apply Kd.R_drew)); exact HO242.out)) k_ hk, Kd.fresh' (Kd.N_lt (by (with_reducible repeat (first | apply Kd.N_alloc | apply Kd.N_drewN | apply Kd.N_drew)); exact HO253.out)) k_ hk, Kd.fresh' (Kd.R_lt (by (with_reducible repeat (first | apply Kd.R_alloc | apply Kd.R_drewN | apply Kd.R_drew)); exact HO259.out)) k_ hk, Kd.fresh' (Kd.R_lt (by (with_reducible repeat (first | apply Kd.R_alloc | apply Kd.R_drewN | apply Kd.R_drew)); exact HO261.out)) k_ hk, Kd.fresh' (Kd.R_lt (by (with_reducible repeat (first | apply Kd.R_alloc | apply Kd.R_drewN | apply Kd.R_drew)); exact HO263.out)) k_ hk⟩) _ (Nat.le_refl _)) (Below.refl _ _) (Nat.le_refl _) (by simp) ?_; (case hd => rfl); (case hg => rfl); (case hr => first | (go_simp; done) | (go_simp; rfl)); (case hp => exact (Reps.c6 (show Kd.FK k41 _ _ (⟨t269, t270, t271, t272, t273, t274⟩ : S41) [.int .i64 t269, .int .i64 t270, .int .i64 t271, .int .i64 t272, .string t273, .slice Ao31 t274.length co31] from (k41_mkF _ _ (⟨t269, t270, t271, t272, t273, t274⟩ : S41) (Kd.R_reads' (Kd.R_mono (ok' := (fun k_ => some k_ ≠ (.slice Ao25 y240.length co25 : Value).ownBlock ∧ some k_ ≠ (.slice Ao26 y251.length co26 : Value).ownBlock ∧ some k_ ≠ (v258 : Value).ownBlock ∧ some k_ ≠ (v260 : Value).ownBlock ∧ some k_ ≠ (v262 : Value).ownBlock)) (Kd.R_apart' (Kd.R_apart' (Kd.R_apart' (Kd.R_apart' (Kd.R_apart' (HO276.out) (Kd.R_typed HO242.out) (by decide)) (Kd.N_typed HO253.out) (by decide)) (Kd.R_typed HO259.out) (by decide)) (Kd.R_typed HO261.out) (by decide)) (Kd.R_typed HO263.out) (by decide)) (fun k_ hk => ⟨hk.1.1.1.1.2, ⟨hk.1.1.1.2, ⟨hk.1.1.2, ⟨hk.1.2, hk.2⟩⟩⟩⟩))).2.1 (Kd.R_F (Kd.R_mono (ok' := (fun k_ => some k_ ≠ (.slice Ao25 y240.length co25 : Value).ownBlock ∧ some k_ ≠ (.slice Ao26 y251.length co26 : Value).ownBlock ∧ some k_ ≠ (v258 : Value).ownBlock ∧ some k_ ≠ (v260 : Value).ownBlock ∧ some k_ ≠ (v262 : Value).ownBlock)) (Kd.R_apart' (Kd.R_apart' (Kd.R_apart' (Kd.R_apart' (Kd.R_apart' (HO276.out) (Kd.R_typed HO242.out) (by decide)) (Kd.N_typed HO253.out) (by decide)) (Kd.R_typed HO259.out) (by decide)) (Kd.R_typed HO261.out) (by decide)) (Kd.R_typed HO263.out) (by decide)) (fun k_ hk => ⟨hk.1.1.1.1.2, ⟨hk.1.1.1.2, ⟨hk.1.1.2, ⟨hk.1.2, hk.2⟩⟩⟩⟩))))) (Reps.none _ _)))
                              intro v278 w32 ho33 hb hg_ hnew_
                              clear hg_ hnew_
                              (first | rw [← Ny277.out] at ho33 | (simp only [Int.reduceToNat] at ho33; rw [← Ny277.out] at ho33))
                              have n0_ := Aside0.mk (Kd.R_below (by (with_reducible repeat (first | apply Kd.R_alloc | apply Kd.R_drewN | apply Kd.R_drew)); exact HO242.out) hb)
                              have n1_ := Aside0.mk (Kd.N_elder' (by (with_reducible repeat (first | apply Kd.N_alloc | apply Kd.N_drewN | apply Kd.N_drew)); exact HO253.out) (Kd.N_base ho33) hb)
                              have n2_ := Aside0.mk (Kd.R_below (by (with_reducible repeat (first | apply Kd.R_alloc | apply Kd.R_drewN | apply Kd.R_drew)); exact HO259.out) hb)
                              have n3_ := Aside0.mk (Kd.R_below (by (with_reducible repeat (first | apply Kd.R_alloc | apply Kd.R_drewN | apply Kd.R_drew)); exact HO261.out) hb)
                              have n4_ := Aside0.mk (Kd.R_below (by (with_reducible repeat (first | apply Kd.R_alloc | apply Kd.R_drewN | apply Kd.R_drew)); exact HO263.out) hb)
                              have n5_ := Aside0.mk (Kd.V_elder' (by (with_reducible repeat (first | apply Kd.V_alloc | apply Kd.V_drewN | apply Kd.V_drew)); exact HO268.out) (Kd.N_base ho33) hb)
                              have n6_ := Aside0.mk (Kd.N_lower ho33 (below_size (by repeat (first | (with_reducible first | exact HB.out | apply below_alloc | apply pw_below_drewN | apply below_drew1) | exact HB.out))))
                              have n7_ := Aside0.mk (below_step (by repeat (first | (with_reducible first | exact HB.out | apply below_alloc | apply pw_below_drewN | apply below_drew1) | exact HB.out)) hb)
                              clear HO242
                              clear HO253
                              clear HO259
                              clear HO261
                              clear HO263
                              clear HO268
                              clear HB
                              clear HO276
                              have HO242 := n0_
                              have HO253 := n1_
                              have HO259 := n2_
                              have HO261 := n3_
                              have HO263 := n4_
                              have HO268 := n5_
                              have HO279 := n6_
                              have HB := n7_
                              clear n0_ n1_ n2_ n3_ n4_ n5_ n6_ n7_
                              clear hb ho33
                              obtain ⟨Ao34, co34, eo34⟩ := Kd.N_slice HO279.out
                              (first | subst eo34 | (injection eo34 with f1_ f2_ f3_; have f4_ := f1_.symm; have f5_ := f3_.symm; clear f1_ f2_ f3_; subst f4_; subst f5_))
                              refine hK.out _ _ trivial (fun hHeld => ?_)
                              clear hK K
                              refine norm_ (a' := ?_) ?_ ?_
                              rotate_left
                              · show Act.put _ (some 27) _ = _
                                simp only [Act.put, List.setIfInBounds_toArray, List.set_cons_zero, List.set_cons_succ, i64_w, i32_w]
                                rfl
                              refine one_ (i := 4) (N := some 28) #[true, true, true, true, true, false, false, false, false, false, false, false, false, false] rfl rfl (one_of HT_.out (by kernel_rfl)) (by decide) (fun K hK => ?_)
                              refine goes_ Try.func9 (by kernel_rfl) rfl #[.slice Ao25 y264.length co25, .slice Ao34 y277.length co34, .int .i64 0] (by rfl) rfl rfl (by (try simp only [List.map_toArray, List.map_cons, List.map_nil]); first | done | rfl | (simp only [List.length_drop, List.length_take]; rfl)) ?_
                              with_reducible refine (apply_Apply.calls k _ _ y264 _ _ y277 0 t280 t281 t282 none _ ?side1 ?side2 ?side3 ?side4 A5.out).mono ?_
                              (case side1 => repeat (first | exact (Kd.V_reads' HO268.out).2.2 | (with_reducible refine Kd.C_alloc ?_ _) | (with_reducible refine Kd.C_drewN ?_ _) | (with_reducible refine Kd.C_drew ?_)))
                              (case side2 => exact (Kd.V_reads' HO268.out).2.1)
                              (case side3 => repeat (first | exact (Kd.N_reads' HO279.out).2.2 | (with_reducible refine Kd.C_alloc ?_ _) | (with_reducible refine Kd.C_drewN ?_ _) | (with_reducible refine Kd.C_drew ?_)))
                              (case side4 => exact (Kd.N_reads' HO279.out).2.1)
                              rintro e w35 ⟨v284, v286, v288, rfl, ho0, ho1, ho2, hb⟩
                              refine ⟨_, rfl, ?_⟩
                              have n0_ := Aside0.mk (Kd.R_elder' (by (with_reducible repeat (first | apply Kd.R_alloc | apply Kd.R_drewN | apply Kd.R_drew)); exact HO242.out) (Kd.R_base ho0) hb)
                              have n1_ := Aside0.mk (Kd.N_mono (Kd.N_told (Kd.N_told (Kd.N_told (Kd.N_old (by (with_reducible repeat (first | apply Kd.N_alloc | apply Kd.N_drewN | apply Kd.N_drew)); exact HO253.out) hb) (Kd.R_base ho0)) (Kd.R_base ho1)) (Kd.R_base ho2)) (fun _ h_ => h_.1))
                              have n2_ := Aside0.mk (Kd.R_elder' (by (with_reducible repeat (first | apply Kd.R_alloc | apply Kd.R_drewN | apply Kd.R_drew)); exact HO259.out) (Kd.R_base ho0) hb)
                              have n3_ := Aside0.mk (Kd.R_elder' (by (with_reducible repeat (first | apply Kd.R_alloc | apply Kd.R_drewN | apply Kd.R_drew)); exact HO261.out) (Kd.R_base ho1) hb)
                              have n4_ := Aside0.mk (Kd.R_elder' (by (with_reducible repeat (first | apply Kd.R_alloc | apply Kd.R_drewN | apply Kd.R_drew)); exact HO263.out) (Kd.R_base ho2) hb)
                              have n5_ := Aside0.mk (Kd.V_mono (Kd.V_told (Kd.V_told (Kd.V_told (Kd.V_old (by (with_reducible repeat (first | apply Kd.V_alloc | apply Kd.V_drewN | apply Kd.V_drew)); exact HO268.out) hb) (Kd.R_base ho0)) (Kd.R_base ho1)) (Kd.R_base ho2)) (fun _ h_ => h_.1))
                              have n6_ := Aside0.mk (Kd.N_mono (Kd.N_told (Kd.N_told (Kd.N_told (Kd.N_old (by (with_reducible repeat (first | apply Kd.N_alloc | apply Kd.N_drewN | apply Kd.N_drew)); exact HO279.out) hb) (Kd.R_base ho0)) (Kd.R_base ho1)) (Kd.R_base ho2)) (fun _ h_ => h_.1))
                              have n7_ := Aside0.mk (Kd.R_lower (Kd.R_new' (Kd.R_new' ho0 (Kd.R_lt (by (with_reducible repeat (first | apply Kd.R_alloc | apply Kd.R_drewN | apply Kd.R_drew)); exact HO242.out))) (Kd.R_lt (by (with_reducible repeat (first | apply Kd.R_alloc | apply Kd.R_drewN | apply Kd.R_drew)); exact HO259.out))) (below_size (by repeat (first | (with_reducible first | exact HB.out | apply below_alloc | apply pw_below_drewN | apply below_drew1) | exact HB.out))))
                              have n8_ := Aside0.mk (Kd.R_lower (Kd.R_new' ho1 (Kd.R_lt (by (with_reducible repeat (first | apply Kd.R_alloc | apply Kd.R_drewN | apply Kd.R_drew)); exact HO261.out))) (below_size (by repeat (first | (with_reducible first | exact HB.out | apply below_alloc | apply pw_below_drewN | apply below_drew1) | exact HB.out))))
                              have n9_ := Aside0.mk (Kd.R_lower (Kd.R_new' ho2 (Kd.R_lt (by (with_reducible repeat (first | apply Kd.R_alloc | apply Kd.R_drewN | apply Kd.R_drew)); exact HO263.out))) (below_size (by repeat (first | (with_reducible first | exact HB.out | apply below_alloc | apply pw_below_drewN | apply below_drew1) | exact HB.out))))
                              have n10_ := Aside0.mk (below_step (by repeat (first | (with_reducible first | exact HB.out | apply below_alloc | apply pw_below_drewN | apply below_drew1) | exact HB.out)) hb)
                              clear HO242
                              clear HO253
                              clear HO259
                              clear HO261
                              clear HO263
                              clear HO268
                              clear HO279
                              clear HB
                              have HO242 := n0_
                              have HO253 := n1_
                              have HO259 := n2_
                              have HO261 := n3_
                              have HO263 := n4_
                              have HO268 := n5_
                              have HO279 := n6_
                              have HO285 := n7_
                              have HO287 := n8_
                              have HO289 := n9_
                              have HB := n10_
                              clear n0_ n1_ n2_ n3_ n4_ n5_ n6_ n7_ n8_ n9_ n10_
                              (try clear hb)
                              (try clear hb2)
                              (try clear hk)
                              (try clear hi)
                              (try clear ho0)
                              (try clear ho1)
                              (try clear ho2)
                              (try simp only [errW_none, errW_some])
                              refine hK.out _ _ trivial (fun hHeld => ?_)
                              clear hK K
                              refine norm_ (a' := ?_) ?_ ?_
                              rotate_left
                              · show Act.put _ (some 28) _ = _
                                simp only [Act.put, List.setIfInBounds_toArray, List.set_cons_zero, List.set_cons_succ, i64_w, i32_w]
                                rfl
                              refine pure_ (i := 5) (N := some 23) (v := ?_) (a' := ?_) #[true, true, true, true, true, true, false, false, false, false, false, false, false, false] rfl rfl (any_of HT_.out (by kernel_rfl)) (fun _ _ _ h => h) (Or.inl ⟨by rfl, ?_⟩) ?_ ?_
                              rotate_left
                              · intro w'
                                go_simp
                                with_reducible rfl
                              rotate_left
                              · simp only [Act.put, List.setIfInBounds_toArray, List.set_cons_zero, List.set_cons_succ, i64_w, i32_w]
                                rfl
                              refine pure_ (i := 6) (N := some 29) (v := ?_) (a' := ?_) #[true, true, true, true, true, true, true, false, false, false, false, false, false, false] rfl rfl (any_of HT_.out (by kernel_rfl)) (fun _ _ _ h => h) (Or.inl ⟨by rfl, ?_⟩) ?_ ?_
                              rotate_left
                              · intro w'
                                go_simp
                                with_reducible rfl
                              rotate_left
                              · simp only [Act.put, List.setIfInBounds_toArray, List.set_cons_zero, List.set_cons_succ, i64_w, i32_w]
                                rfl
                              refine pure_ (i := 7) (N := some 30) (v := ?_) (a' := ?_) #[true, true, true, true, true, true, true, true, false, false, false, false, false, false] rfl rfl (any_of HT_.out (by kernel_rfl)) (fun _ _ _ h => h) (Or.inl ⟨by rfl, ?_⟩) ?_ ?_
                              rotate_left
                              · intro w'
                                go_simp
                                with_reducible rfl
                              rotate_left
                              · simp only [Act.put, List.setIfInBounds_toArray, List.set_cons_zero, List.set_cons_succ, i64_w, i32_w]
                                rfl
                              refine pure_ (i := 8) (N := some 31) (v := ?_) (a' := ?_) #[true, true, true, true, true, true, true, true, true, false, false, false, false, false] rfl rfl (any_of HT_.out (by kernel_rfl)) (fun _ _ _ h => h) (Or.inl ⟨by rfl, ?_⟩) ?_ ?_
                              rotate_left
                              · intro w'
                                go_simp
                                with_reducible rfl
                              rotate_left
                              · simp only [Act.put, List.setIfInBounds_toArray, List.set_cons_zero, List.set_cons_succ, i64_w, i32_w]
                                rfl
                              refine pure_ (i := 9) (N := some 32) (v := ?_) (a' := ?_) #[true, true, true, true, true, true, true, true, true, true, false, false, false, false] rfl rfl (any_of HT_.out (by kernel_rfl)) (fun _ _ _ h => h) (Or.inl ⟨by rfl, ?_⟩) ?_ ?_
                              rotate_left
                              · intro w'
                                go_simp
                                with_reducible rfl
                              rotate_left
                              · simp only [Act.put, List.setIfInBounds_toArray, List.set_cons_zero, List.set_cons_succ, i64_w, i32_w]
                                rfl
                              refine pure_ (i := 10) (N := some 6) (v := ?_) (a' := ?_) #[true, true, true, true, true, true, true, true, true, true, true, false, false, false] rfl rfl (any_of HT_.out (by kernel_rfl)) (fun _ _ _ h => h) (Or.inl ⟨by rfl, ?_⟩) ?_ ?_
                              rotate_left
                              · intro w'
                                go_simp
                                with_reducible rfl
                              rotate_left
                              · simp only [Act.put, List.setIfInBounds_toArray, List.set_cons_zero, List.set_cons_succ, i64_w, i32_w]
                                rfl
                              refine pure_ (i := 11) (N := some 7) (v := ?_) (a' := ?_) #[true, true, true, true, true, true, true, true, true, true, true, true, false, false] rfl rfl (any_of HT_.out (by kernel_rfl)) (fun _ _ _ h => h) (Or.inl ⟨by rfl, ?_⟩) ?_ ?_
                              rotate_left
                              · intro w'
                                go_simp
                                with_reducible rfl
                              rotate_left
                              · simp only [Act.put, List.setIfInBounds_toArray, List.set_cons_zero, List.set_cons_succ, i64_w, i32_w]
                                rfl
                              refine pure_ (i := 12) (N := some 8) (v := ?_) (a' := ?_) #[true, true, true, true, true, true, true, true, true, true, true, true, true, false] rfl rfl (any_of HT_.out (by kernel_rfl)) (fun _ _ _ h => h) (Or.inl ⟨by rfl, ?_⟩) ?_ ?_
                              rotate_left
                              · intro w'
                                go_simp
                                with_reducible rfl
                              rotate_left
                              · simp only [Act.put, List.setIfInBounds_toArray, List.set_cons_zero, List.set_cons_succ, i64_w, i32_w]
                                rfl
                              refine pure_ (i := 13) (N := some 9) (v := ?_) (a' := ?_) #[true, true, true, true, true, true, true, true, true, true, true, true, true, true] rfl rfl (any_of HT_.out (by kernel_rfl)) (fun _ _ _ h => h) (Or.inl ⟨by rfl, ?_⟩) ?_ ?_
                              rotate_left
                              · intro w'
                                go_simp
                                with_reducible rfl
                              rotate_left
                              · simp only [Act.put, List.setIfInBounds_toArray, List.set_cons_zero, List.set_cons_succ, i64_w, i32_w]
                                rfl
                              refine done_ (done_of HT_.out (by kernel_rfl)) ?_
                              try go_wp2_with (first | ((with_reducible refine gate_callee (f := 21) rfl ?_); refine goesL_ (some 35) rfl rfl Try.func21 (by kernel_rfl) rfl #[.int .i64 2] rfl (by (try simp only [List.map_toArray, List.map_cons, List.map_nil]); first | done | rfl | (simp only [List.length_drop, List.length_take]; rfl)) ?_; (with_reducible refine (selvagelaw17_one.calls 2 t290 t291 t292 t293 t294 t295 _ A6.out).mono ?_); rintro e w36 ⟨v296, rfl, ho0, hb⟩; refine ⟨_, rfl, ?_⟩; have n0_ := Aside0.mk (Kd.R_below (by (with_reducible repeat (first | apply Kd.R_alloc | apply Kd.R_drewN | apply Kd.R_drew)); exact HO242.out) hb); have n1_ := Aside0.mk (Kd.N_elder' (by (with_reducible repeat (first | apply Kd.N_alloc | apply Kd.N_drewN | apply Kd.N_drew)); exact HO253.out) (Kd.R_base ho0) hb); have n2_ := Aside0.mk (Kd.R_below (by (with_reducible repeat (first | apply Kd.R_alloc | apply Kd.R_drewN | apply Kd.R_drew)); exact HO259.out) hb); have n3_ := Aside0.mk (Kd.R_below (by (with_reducible repeat (first | apply Kd.R_alloc | apply Kd.R_drewN | apply Kd.R_drew)); exact HO261.out) hb); have n4_ := Aside0.mk (Kd.R_below (by (with_reducible repeat (first | apply Kd.R_alloc | apply Kd.R_drewN | apply Kd.R_drew)); exact HO263.out) hb); have n5_ := Aside0.mk (Kd.V_elder' (by (with_reducible repeat (first | apply Kd.V_alloc | apply Kd.V_drewN | apply Kd.V_drew)); exact HO268.out) (Kd.R_base ho0) hb); have n6_ := Aside0.mk (Kd.N_elder' (by (with_reducible repeat (first | apply Kd.N_alloc | apply Kd.N_drewN | apply Kd.N_drew)); exact HO279.out) (Kd.R_base ho0) hb); have n7_ := Aside0.mk (Kd.R_below (by (with_reducible repeat (first | apply Kd.R_alloc | apply Kd.R_drewN | apply Kd.R_drew)); exact HO285.out) hb); have n8_ := Aside0.mk (Kd.R_below (by (with_reducible repeat (first | apply Kd.R_alloc | apply Kd.R_drewN | apply Kd.R_drew)); exact HO287.out) hb); have n9_ := Aside0.mk (Kd.R_below (by (with_reducible repeat (first | apply Kd.R_alloc | apply Kd.R_drewN | apply Kd.R_drew)); exact HO289.out) hb); have n10_ := Aside0.mk (Kd.R_lower ho0 (below_size (by repeat (first | (with_reducible first | exact HB.out | apply below_alloc | apply pw_below_drewN | apply below_drew1) | exact HB.out)))); have n11_ := Aside0.mk (below_step (by repeat (first | (with_reducible first | exact HB.out | apply below_alloc | apply pw_below_drewN | apply below_drew1) | exact HB.out)) hb); clear HO242; clear HO253; clear HO259; clear HO261; clear HO263; clear HO268; clear HO279; clear HO285; clear HO287; clear HO289; clear HB; have HO242 := n0_; have HO253 := n1_; have HO259 := n2_; have HO261 := n3_; have HO263 := n4_; have HO268 := n5_; have HO279 := n6_; have HO285 := n7_; have HO287 := n8_; have HO289 := n9_; have HO297 := n10_; have HB := n11_; clear n0_ n1_ n2_ n3_ n4_ n5_ n6_ n7_ n8_ n9_ n10_ n11_; (try clear hb); (try clear hb2); (try clear hk); (try clear hi); (try clear ho0); obtain ⟨Ao37, co37, eo37⟩ := Kd.R_slice HO297.out; subst eo37) | ((with_reducible refine gate_callee (f := 22) rfl ?_); refine goesL_ (some 36) rfl rfl Try.func22 (by kernel_rfl) rfl #[.slice Ao25 y240.length co25, .agg #[.int .i64 t290, .int .i64 t291, .int .i64 t292, .int .i64 t293, .string t294, .slice Ao37 t295.length co37], .int .i64 0, .int .i64 0, .int .i64 0] rfl (by (try simp only [List.map_toArray, List.map_cons, List.map_nil]); first | done | rfl | (simp only [List.length_drop, List.length_take]; rfl)) ?_; (with_reducible refine (apply_Find.calls k _ _ y240 t290 t291 t292 t293 t294 _ _ t295 0 0 0 t298 t299 t300 _ ?side1 ?side2 ?side3 ?side4 A7.out).mono ?_); (case side1 => repeat (first | exact (Kd.R_reads' HO242.out).2.2 | (with_reducible refine Kd.C_alloc ?_ _) | (with_reducible refine Kd.C_drewN ?_ _) | (with_reducible refine Kd.C_drew ?_))); (case side2 => exact (Kd.R_reads' HO242.out).2.1); (case side3 => repeat (first | exact (Kd.R_reads' HO297.out).2.2 | (with_reducible refine Kd.C_alloc ?_ _) | (with_reducible refine Kd.C_drewN ?_ _) | (with_reducible refine Kd.C_drew ?_))); (case side4 => exact (Kd.R_reads' HO297.out).2.1); rintro e w38 ⟨rfl, hb⟩; refine ⟨_, rfl, ?_⟩; have n0_ := Aside0.mk (Kd.R_below (by (with_reducible repeat (first | apply Kd.R_alloc | apply Kd.R_drewN | apply Kd.R_drew)); exact HO242.out) hb); have n1_ := Aside0.mk (Kd.N_below (by (with_reducible repeat (first | apply Kd.N_alloc | apply Kd.N_drewN | apply Kd.N_drew)); exact HO253.out) hb); have n2_ := Aside0.mk (Kd.R_below (by (with_reducible repeat (first | apply Kd.R_alloc | apply Kd.R_drewN | apply Kd.R_drew)); exact HO259.out) hb); have n3_ := Aside0.mk (Kd.R_below (by (with_reducible repeat (first | apply Kd.R_alloc | apply Kd.R_drewN | apply Kd.R_drew)); exact HO261.out) hb); have n4_ := Aside0.mk (Kd.R_below (by (with_reducible repeat (first | apply Kd.R_alloc | apply Kd.R_drewN | apply Kd.R_drew)); exact HO263.out) hb); have n5_ := Aside0.mk (Kd.V_below (by (with_reducible repeat (first | apply Kd.V_alloc | apply Kd.V_drewN | apply Kd.V_drew)); exact HO268.out) hb); have n6_ := Aside0.mk (Kd.N_below (by (with_reducible repeat (first | apply Kd.N_alloc | apply Kd.N_drewN | apply Kd.N_drew)); exact HO279.out) hb); have n7_ := Aside0.mk (Kd.R_below (by (with_reducible repeat (first | apply Kd.R_alloc | apply Kd.R_drewN | apply Kd.R_drew)); exact HO285.out) hb); have n8_ := Aside0.mk (Kd.R_below (by (with_reducible repeat (first | apply Kd.R_alloc | apply Kd.R_drewN | apply Kd.R_drew)); exact HO287.out) hb); have n9_ := Aside0.mk (Kd.R_below (by (with_reducible repeat (first | apply Kd.R_alloc | apply Kd.R_drewN | apply Kd.R_drew)); exact HO289.out) hb); have n10_ := Aside0.mk (Kd.R_below (by (with_reducible repeat (first | apply Kd.R_alloc | apply Kd.R_drewN | apply Kd.R_drew)); exact HO297.out) hb); have n11_ := Aside0.mk (below_step (by repeat (first | (with_reducible first | exact HB.out | apply below_alloc | apply pw_below_drewN | apply below_drew1) | exact HB.out)) hb); clear HO242; clear HO253; clear HO259; clear HO261; clear HO263; clear HO268; clear HO279; clear HO285; clear HO287; clear HO289; clear HO297; clear HB; have HO242 := n0_; have HO253 := n1_; have HO259 := n2_; have HO261 := n3_; have HO263 := n4_; have HO268 := n5_; have HO279 := n6_; have HO285 := n7_; have HO287 := n8_; have HO289 := n9_; have HO297 := n10_; have HB := n11_; clear n0_ n1_ n2_ n3_ n4_ n5_ n6_ n7_ n8_ n9_ n10_ n11_; (try clear hb); (try clear hb2); (try clear hk); (try clear hi); obtain ⟨Ao39, co39, eo39⟩ := Kd.R_slice HO259.out; subst eo39; have p302 : 0 ≤ (2 : Int) := (by omega); have q302 : 2 < (t254.length : Int) := of_decide_eq_true (by first | (with_reducible assumption) | assumption); obtain ⟨ad302, e302, hx302_0⟩ := Kd.at_string (Kd.R_reads' HO259.out).2.2 2 p302 q302; cases e302; (try simp only [show (2 : Int).toNat = 2 from rfl, Nat.reduceMul, Nat.reduceEqDiff, Go.Addr.add, ↓reduceIte] at hx302_0); have qi302 : (2 < t254.length) = True := eq_true (by omega); (try rw [show ((2 : Int)).toNat = 2 from rfl] at hx302_0); replace p302 := eq_true p302; replace q302 := eq_true q302; obtain ⟨Ao40, co40, eo40⟩ := Kd.R_slice HO261.out; subst eo40; have p303 : 0 ≤ (0 : Int) := (by omega); have q303 : 0 < (t255.length : Int) := of_decide_eq_true (by first | (with_reducible assumption) | assumption); obtain ⟨ad303, e303, hx303_0, hx303_1, hx303_2, hx303_3⟩ := at_T45 (Kd.R_reads' HO261.out).2.2 0 p303 q303; cases e303; have qi303 : (0 < t255.length) = True := eq_true (by omega); (try rw [show ((0 : Int)).toNat = 0 from rfl] at hx303_0); (try rw [show 0 * 4 = 0 from rfl] at hx303_0); (try rw [Addr.add_zero'] at hx303_0); (try rw [show ((0 : Int)).toNat = 0 from rfl] at hx303_1); (try rw [show 0 * 4 = 0 from rfl] at hx303_1); (try rw [Addr.add_zero'] at hx303_1); (try rw [show ((0 : Int)).toNat = 0 from rfl] at hx303_2); (try rw [show 0 * 4 = 0 from rfl] at hx303_2); (try rw [Addr.add_zero'] at hx303_2); (try rw [show ((0 : Int)).toNat = 0 from rfl] at hx303_3); (try rw [show 0 * 4 = 0 from rfl] at hx303_3); (try rw [Addr.add_zero'] at hx303_3); replace p303 := eq_true p303; replace q303 := eq_true q303; obtain ⟨Ao41, co41, eo41⟩ := Kd.R_slice HO263.out; subst eo41; obtain ⟨Ao42, co42, eo42⟩ := Kd.R_slice HO287.out; subst eo42; obtain ⟨Ao43, co43, eo43⟩ := Kd.R_slice HO289.out; subst eo43))
                              go_ret
                              exact ⟨by first | rfl | (simp [errW_none, errW_some] <;> rfl) | (simp [*, errW_none, errW_some] <;> rfl) | (simp only [i64_w, i32_w, u8_w]; first | rfl | (simp [errW_none, errW_some] <;> rfl)) | (simp only [bne_nil, beq_nil]; first | rfl | (simp <;> rfl)), by repeat (first | (with_reducible first | exact HB.out | apply below_alloc | apply pw_below_drewN | apply below_drew1) | exact HB.out)⟩
                            · first | (rw [if_neg c18] at H; exact absurd H (by simp)) | exact absurd H (by simp [c18])
                          · first | (rw [if_neg c17] at H; exact absurd H (by simp)) | exact absurd H (by simp [c17])
                        · first | (rw [if_neg c16] at H; exact absurd H (by simp)) | exact absurd H (by simp [c16])
                      · first | (rw [if_neg c15] at H; exact absurd H (by simp)) | exact absurd H (by simp [c15])
                    · exact absurd H (by simp)
                  · first | (rw [if_neg c14] at H; exact absurd H (by simp)) | exact absurd H (by simp [c14])
                · first | (rw [if_neg c13] at H; exact absurd H (by simp)) | exact absurd H (by simp [c13])
              · first | (rw [if_neg c12] at H; exact absurd H (by simp)) | exact absurd H (by simp [c12])
            · first | (rw [if_neg c11] at H; exact absurd H (by simp)) | exact absurd H (by simp [c11])
          · first | (rw [if_neg c10] at H; exact absurd H (by simp)) | exact absurd H (by simp [c10])
        · first | (rw [if_neg c9] at H; exact absurd H (by simp)) | exact absurd H (by simp [c9])
      · first | (rw [if_neg c8] at H; exact absurd H (by simp)) | exact absurd H (by simp [c8])
    · exact absurd H (by simp)
  · first | (rw [if_neg c3] at H; exact absurd H (by simp)) | exact absurd H (by simp [c3])end Go.Proofs.Ytkoagpnoaibdjaa.Ext
