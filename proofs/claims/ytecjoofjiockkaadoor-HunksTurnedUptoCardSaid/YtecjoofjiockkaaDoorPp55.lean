import Derived.Test.YtecjoofjiockkaaDoorESt
import Derived.Test.YtecjoofjiockkaaDoorPp0
import Derived.Test.YtecjoofjiockkaaDoorPp2
import Derived.Test.YtecjoofjiockkaaDoorPp3
import Derived.Test.YtecjoofjiockkaaDoorPp4
import Derived.Test.YtecjoofjiockkaaDoorPp7
import Derived.Test.YtecjoofjiockkaaDoorPp8
import Derived.Test.YtecjoofjiockkaaDoorPp10
import Derived.Test.YtecjoofjiockkaaDoorPp11
import Derived.Test.YtecjoofjiockkaaDoorPp12
import Derived.Test.YtecjoofjiockkaaDoorPp13
import Derived.Test.YtecjoofjiockkaaDoorPp14
import Derived.Test.YtecjoofjiockkaaDoorPp15
import Derived.Test.YtecjoofjiockkaaDoorPp16
import Derived.Test.YtecjoofjiockkaaDoorPp17
import Derived.Test.YtecjoofjiockkaaDoorPp18
import Derived.Test.YtecjoofjiockkaaDoorPp19
import Derived.Test.YtecjoofjiockkaaDoorPp21
import Derived.Test.YtecjoofjiockkaaDoorPp26
import Derived.Test.YtecjoofjiockkaaDoorPp52
import Derived.Test.YtecjoofjiockkaaDoorPp53
import Derived.Test.YtecjoofjiockkaaDoorPp54
import Derived.Test.YtecjoofjiockkaaDoorEReverse
namespace Go.Proofs.YtecjoofjiockkaaDoor.Pp
open Go.RowKit Go.Proofs.YtecjoofjiockkaaDoor.Ext Go.Proofs.YtecjoofjiockkaaDoorW.PrintWords Go.Proofs.YtecjoofjiockkaaDoorW.PrintLast Go.Proofs.YtecjoofjiockkaaDoorW.PrintMore
attribute [local go_sem] max2_int min2_int max_two min_two max_three min_three max_four min_four   -- for this text's walks alone
set_option linter.unusedVariables false
set_option linter.unusedSimpArgs false
mutual
def selvagelaw10_HunksTurned.l0 : Nat → List (S41) → List (S37) → Int → List (S53) → List ByteArray → List ByteArray → Int → Option (Bool)
 | 0, _, _, _, _, _, _, _ => none
 | k + 1, x3, x5, x7, x419000, x419001, x419002, x419003 => if x7 < (x5.length : Int) then (if 0 ≤ x7 then (if 0 ≤ ((rd_T37 x5 x7).f0) then (if ((rd_T37 x5 x7).f0) < (x419001.length : Int) then (if 0 ≤ ((rd_T37 x5 x7).f1) then (if ((rd_T37 x5 x7).f1) < (x419002.length : Int) then (if (rdOf ByteArray.empty x419001 ((rd_T37 x5 x7).f0)).toList = (rdOf ByteArray.empty x419002 ((rd_T37 x5 x7).f1)).toList then (selvagelaw10_HunksTurned.l0 k x3 x5 (wrap64 (x7 + 1)) x419000 x419001 x419002 x419003) else ((selvagelaw10_works.f k).bind fun t441 => (some t441))) else (none)) else (none)) else (none)) else (none)) else (none)) else ((selvagelaw10_changes.f x419000).bind fun t442 => ((edits_Invert.f k t442).bind fun t445 => ((selvagelaw10_texts.f x419002).bind fun t448 => ((selvagelaw10_texts.f x419001).bind fun t451 => ((hunks_Build.f k t445 t448 t451 x419003).bind fun bt454 => (if bt454.2.isNone = true then (selvagelaw10_HunksTurned.j1 k x3 bt454.1 ((x3.length : Int) != (bt454.1.length : Int)) x419000 x419001 x419002 x419003) else (selvagelaw10_HunksTurned.j1 k x3 bt454.1 true x419000 x419001 x419002 x419003)))))))
def selvagelaw10_HunksTurned.j1 : Nat → List (S41) → List (S41) → Bool → List (S53) → List ByteArray → List ByteArray → Int → Option (Bool)
 | 0, _, _, _, _, _, _, _ => none
 | k + 1, x3, x8, x93, x419000, x419001, x419002, x419003 => if x93 = true then (none) else (selvagelaw10_HunksTurned.l1 k x3 x8 0 x419000 x419001 x419002 x419003)
def selvagelaw10_HunksTurned.l1 : Nat → List (S41) → List (S41) → Int → List (S53) → List ByteArray → List ByteArray → Int → Option (Bool)
 | 0, _, _, _, _, _, _, _ => none
 | k + 1, x3, x8, x10, x419000, x419001, x419002, x419003 => if x10 < (x3.length : Int) then (if 0 ≤ x10 then ((hunks_Reverse.f ((rd_T41 x3 x10).f0) ((rd_T41 x3 x10).f1) ((rd_T41 x3 x10).f2) ((rd_T41 x3 x10).f3) ((rd_T41 x3 x10).f4) ((rd_T41 x3 x10).f5)).bind fun bt461 => (if x10 < (x8.length : Int) then ((selvagelaw10_same.f k bt461.1 bt461.2.1 bt461.2.2.1 bt461.2.2.2.1 bt461.2.2.2.2.1 bt461.2.2.2.2.2 ((rd_T41 x8 x10).f0) ((rd_T41 x8 x10).f1) ((rd_T41 x8 x10).f2) ((rd_T41 x8 x10).f3) ((rd_T41 x8 x10).f4) ((rd_T41 x8 x10).f5)).bind fun t470 => (if t470 = true then ((hunks_Reverse.f ((rd_T41 x3 x10).f0) ((rd_T41 x3 x10).f1) ((rd_T41 x3 x10).f2) ((rd_T41 x3 x10).f3) ((rd_T41 x3 x10).f4) ((rd_T41 x3 x10).f5)).bind fun bt472 => ((hunks_Reverse.f bt472.1 bt472.2.1 bt472.2.2.1 bt472.2.2.2.1 bt472.2.2.2.2.1 bt472.2.2.2.2.2).bind fun bt480 => ((selvagelaw10_same.f k bt480.1 bt480.2.1 bt480.2.2.1 bt480.2.2.2.1 bt480.2.2.2.2.1 bt480.2.2.2.2.2 ((rd_T41 x3 x10).f0) ((rd_T41 x3 x10).f1) ((rd_T41 x3 x10).f2) ((rd_T41 x3 x10).f3) ((rd_T41 x3 x10).f4) ((rd_T41 x3 x10).f5)).bind fun t489 => (selvagelaw10_HunksTurned.j3 k x3 x8 x10 (!t489) x419000 x419001 x419002 x419003)))) else (selvagelaw10_HunksTurned.j3 k x3 x8 x10 true x419000 x419001 x419002 x419003))) else (none))) else (none)) else ((selvagelaw10_works.f k).bind fun t459 => (some t459))
def selvagelaw10_HunksTurned.j3 : Nat → List (S41) → List (S41) → Int → Bool → List (S53) → List ByteArray → List ByteArray → Int → Option (Bool)
 | 0, _, _, _, _, _, _, _, _ => none
 | k + 1, x3, x8, x10, x124, x419000, x419001, x419002, x419003 => if x124 = true then (none) else (if 0 ≤ x10 then (if x10 < (x3.length : Int) then ((hunks_Sides.f k ((rd_T41 x3 x10).f0) ((rd_T41 x3 x10).f1) ((rd_T41 x3 x10).f2) ((rd_T41 x3 x10).f3) ((rd_T41 x3 x10).f4) ((rd_T41 x3 x10).f5)).bind fun bt491 => ((selvageref01_Valid.f k x419002).bind fun t497 => (if t497 = true then (if (bt491.2.length : Int) = ((rd_T41 x3 x10).f3) then (selvagelaw10_HunksTurned.l1 k x3 x8 (wrap64 (x10 + 1)) x419000 x419001 x419002 x419003) else (none)) else (none)))) else (none)) else (none))
end
def selvagelaw10_HunksTurned.f (k : Nat) (l0_0 : List (S53)) (l0_1 : List ByteArray) (l0_2 : List ByteArray) (a0_3 : Int) : Option (Bool) := (selvagelaw10_changes.f l0_0).bind fun t419 => ((selvagelaw10_texts.f l0_1).bind fun t422 => ((selvagelaw10_texts.f l0_2).bind fun t425 => ((hunks_Build.f k t419 t422 t425 a0_3).bind fun bt428 => (if bt428.2.isNone = true then ((selvageref06_Pairs.f k l0_0 (l0_1.length : Int) (l0_2.length : Int)).bind fun bt433 => (selvagelaw10_HunksTurned.l0 k bt428.1 bt433.1 0 l0_0 l0_1 l0_2 a0_3)) else ((selvagelaw10_works.f k).bind fun t499 => (some t499))))))
def selvagelaw10_HunksTurned.T1 : Bool × List (List Nat × List Nat) := (true, [([], []), ([0], [0]), ([1], [1]), ([], []), ([3], [3]), ([4, 2], [4]), ([], []), ([6], [6]), ([7, 5], [7]), ([], []), ([9], [9]), ([2, 5, 8, 10, 8], [2, 5, 8, 10]), ([11], [11]), ([12], [12]), ([12], [12]), ([13, 11, 0, 1, 2, 3, 4, 5, 6, 7, 8, 9, 10, 11, 12, 13], [13]), ([14, 15, 0, 1, 2, 3, 4, 5, 6, 7, 8, 9, 10, 11, 12, 13, 14, 15], [14])])
def selvagelaw10_HunksTurned.B1 : List Nat := [0, 1, 3, 0, 8, 31, 0, 64, 255, 0, 512, 2047, 4095, 8191, 8191, 16383, 65535]
theorem selvagelaw10_HunksTurned.tab1 : rtab .any (opsOf Tryd.f3 1) = selvagelaw10_HunksTurned.T1 := by kernel_rfl
theorem selvagelaw10_HunksTurned.bits1 : waitsOk selvagelaw10_HunksTurned.T1.2 selvagelaw10_HunksTurned.B1 = true := by kernel_rfl
def selvagelaw10_HunksTurned.T8 : Bool × List (List Nat × List Nat) := (true, [([], []), ([0], [0]), ([], []), ([], []), ([2, 3], [2, 3]), ([4], [4]), ([5], [5]), ([1, 6], [1, 6]), ([7], [7]), ([], []), ([9], [9]), ([], []), ([], []), ([11, 12], [11, 12]), ([13], [13]), ([14], [14]), ([10, 15], [10, 15]), ([16], [16]), ([8, 17], [8, 17])])
def selvagelaw10_HunksTurned.B8 : List Nat := [0, 1, 0, 0, 12, 28, 60, 127, 255, 0, 512, 0, 0, 6144, 14336, 30720, 65024, 130560, 262143]
theorem selvagelaw10_HunksTurned.tab8 : rtab .any (opsOf Tryd.f3 8) = selvagelaw10_HunksTurned.T8 := by kernel_rfl
theorem selvagelaw10_HunksTurned.bits8 : waitsOk selvagelaw10_HunksTurned.T8.2 selvagelaw10_HunksTurned.B8 = true := by kernel_rfl
def selvagelaw10_HunksTurned.T10 : Bool × List (List Nat × List Nat) := (true, [([], []), ([0], [0]), ([1], [1]), ([2, 2], [2]), ([], []), ([4], [4]), ([5, 3], [5]), ([], []), ([7], [7]), ([8, 6], [8]), ([], []), ([10], [10]), ([3, 6, 9, 11, 9], [3, 6, 9, 11]), ([12], [12]), ([13], [13]), ([13], [13]), ([14, 12, 0, 1, 2, 3, 4, 5, 6, 7, 8, 9, 10, 11, 12, 13, 14], [14]), ([15, 16, 0, 1, 2, 3, 4, 5, 6, 7, 8, 9, 10, 11, 12, 13, 14, 15, 16], [15])])
def selvagelaw10_HunksTurned.B10 : List Nat := [0, 1, 3, 7, 0, 16, 63, 0, 128, 511, 0, 1024, 4095, 8191, 16383, 16383, 32767, 131071]
theorem selvagelaw10_HunksTurned.tab10 : rtab .any (opsOf Tryd.f3 10) = selvagelaw10_HunksTurned.T10 := by kernel_rfl
theorem selvagelaw10_HunksTurned.bits10 : waitsOk selvagelaw10_HunksTurned.T10.2 selvagelaw10_HunksTurned.B10 = true := by kernel_rfl
def selvagelaw10_HunksTurned.T16 : Bool × List (List Nat × List Nat) := (true, [([], []), ([], []), ([0, 1], [0, 1]), ([2], [2]), ([3], [3]), ([], []), ([], []), ([5, 6], [5, 6]), ([7], [7]), ([4, 8, 4], [4, 8]), ([9], [9]), ([10, 9], [10]), ([11], [11]), ([11], [11]), ([12, 13, 11], [11, 12, 13]), ([14, 11], [11, 14]), ([15, 11, 11], [11, 15]), ([16, 16, 11], [11, 16]), ([11], [11]), ([11], [11]), ([18, 19, 11], [11, 18, 19]), ([20, 11], [11, 20]), ([17, 21, 17, 11], [11, 17, 21]), ([22, 11], [11, 22]), ([11, 23], [11, 23])])
def selvagelaw10_HunksTurned.B16 : List Nat := [0, 0, 3, 7, 15, 0, 0, 96, 224, 511, 1023, 2047, 4095, 4095, 16383, 32767, 65535, 131071, 4095, 4095, 790527, 1839103, 4194303, 8388607, 16777215]
theorem selvagelaw10_HunksTurned.tab16 : rtab .any (opsOf Tryd.f3 16) = selvagelaw10_HunksTurned.T16 := by kernel_rfl
theorem selvagelaw10_HunksTurned.bits16 : waitsOk selvagelaw10_HunksTurned.T16.2 selvagelaw10_HunksTurned.B16 = true := by kernel_rfl
theorem selvagelaw10_HunksTurned.j3_dead : ∀ k y0 y1 y2 y4 y5 y6 y7, selvagelaw10_HunksTurned.j3 k y0 y1 y2 true y4 y5 y6 y7 = none
 | 0, _, _, _, _, _, _, _ => rfl
 | k + 1, _, _, _, _, _, _, _ => by simp [selvagelaw10_HunksTurned.j3]
set_option maxHeartbeats 80000000 in
set_option maxRecDepth 100000 in
theorem selvagelaw10_HunksTurned.calls (k : Nat) (A0_0 : Option Addr) (c0_0 : Nat) (l0_0 : List (S53)) (A0_1 : Option Addr) (c0_1 : Nat) (l0_1 : List ByteArray) (A0_2 : Option Addr) (c0_2 : Nat) (l0_2 : List ByteArray) (a0_3 : Int) (r : Bool) (w : World) (hr0_0 : Kd.C k53 w A0_0 l0_0.length l0_0) (hc0_0 : l0_0.length ≤ c0_0) (hr0_1 : Kd.C Kd.string w A0_1 l0_1.length l0_1) (hc0_1 : l0_1.length ≤ c0_1) (hr0_2 : Kd.C Kd.string w A0_2 l0_2.length l0_2) (hc0_2 : l0_2.length ≤ c0_2) (hGL : Glob w) (h : selvagelaw10_HunksTurned.f k l0_0 l0_1 l0_2 a0_3 = some r) :
  Calls Tryd.prog 3 #[.agg #[.slice A0_0 l0_0.length c0_0, .slice A0_1 l0_1.length c0_1, .slice A0_2 l0_2.length c0_2, .int .i64 a0_3]] w fun e w' => e = .returned (.bool r) ∧ Below w.heap.size w w' := by
 have hu25 := Tryd.underlying25
 have hu41 := Tryd.underlying41
 have hu28 := Tryd.underlying28
 have hu57 := Tryd.underlying57
 have HR0_0 := Aside0.mk hr0_0
 have HC0_0 := Aside0.mk hc0_0
 clear hr0_0 hc0_0
 have HR0_1 := Aside0.mk hr0_1
 have HC0_1 := Aside0.mk hc0_1
 clear hr0_1 hc0_1
 have HR0_2 := Aside0.mk hr0_2
 have HC0_2 := Aside0.mk hc0_2
 clear hr0_2 hc0_2
 have HB := Aside0.mk (Below.refl w.heap.size w)
 have H := h
 clear h
 unfold selvagelaw10_HunksTurned.f at H
 replace H := bdS H
 obtain ⟨t419, A2, H⟩ := H
 replace H := bdS H
 obtain ⟨t422, A3, H⟩ := H
 replace H := bdS H
 obtain ⟨t425, A4, H⟩ := H
 replace H := bdS H
 obtain ⟨⟨t428, t429⟩, A5, H⟩ := H
 replace H : (if t429.isNone = true then ((selvageref06_Pairs.f k l0_0 (l0_1.length : Int) (l0_2.length : Int)).bind fun bt433 => (selvagelaw10_HunksTurned.l0 k t428 bt433.1 0 l0_0 l0_1 l0_2 a0_3)) else ((selvagelaw10_works.f k).bind fun t499 => (some t499))) = some r := H
 rcases t429 with _ | q432
 ·have H1 : ((selvageref06_Pairs.f k l0_0 (l0_1.length : Int) (l0_2.length : Int)).bind fun bt433 => (selvagelaw10_HunksTurned.l0 k t428 bt433.1 0 l0_0 l0_1 l0_2 a0_3)) = some r := by rw [if_pos (show (none : Option Int).isNone = true by rfl)] at H; exact H
  clear H
  have H := H1
  clear H1
  try simp only [errW_none, errW_some]
  replace H := bdS H
  obtain ⟨⟨t433, t434⟩, A6, H⟩ := H
  replace H : (selvagelaw10_HunksTurned.l0 k t428 t433 0 l0_0 l0_1 l0_2 a0_3) = some r := H
  have H' := Aside0.mk H
  clear H
  go_enter Tryd.func3, Tryd.ntmps3
  try simp only [List.append_eq, List.cons_append, List.nil_append]
  try go_wp2_with (first | ((with_reducible refine gate_dst (N := 1) rfl ?_); (try (refine gate_guard (by rfl) ?_; dsimp only)); refine boxEv (N := 1) #[.slice A0_0 l0_0.length c0_0, .slice A0_1 l0_1.length c0_1, .slice A0_2 l0_2.length c0_2, .int .i64 a0_3] 25 ?_; intro gb418 hg w7 hbox hb; have BK418 := Aside0.mk hbox; have GW418 := gwN HB hg; have GE418 := GW418; replace HB := hbD HB hb; clear hb hbox hg))
  replace BK418 := Aside0.mk (blk_drew BK418.out)
  replace HB := Aside0.mk (below_drew1 HB.out)
  refine start_ (n := 17) (S := fun w' => w'.cell? ⟨gb418, 0, none⟩ = some (.slice A0_0 l0_0.length c0_0) ∧ w'.cell? ⟨gb418, 1, none⟩ = some (.slice A0_1 l0_1.length c0_1) ∧ w'.cell? ⟨gb418, 2, none⟩ = some (.slice A0_2 l0_2.length c0_2) ∧ w'.cell? ⟨gb418, 3, none⟩ = some (.int .i64 a0_3)) (ds := []) #[false, false, false, false, false, false, false, false, false, false, false, false, false, false, false, false, false] (by kernel_rfl) rfl rfl ⟨bc BK418 0, bc BK418 1, bc BK418 2, bc BK418 3⟩ (fun hHeld => ?_); refine with_tabW selvagelaw10_HunksTurned.tab1 selvagelaw10_HunksTurned.bits1 (fun HT_ HW_ => ?_)
  generalize w7.drew = w8 at BK418 HB hHeld ⊢
  refine pureT 0 ?_
  refine pureT 3 ?_
  refine pureT 6 ?_
  refine pureT 9 ?_
  refine takeT 1 hHeld ?_
  refine takeT 4 hHeld ?_
  refine takeT 7 hHeld ?_
  refine takeT 10 hHeld ?_
  refine one_ (i := 2) (N := some 16) #[true, true, true, true, true, false, true, true, false, true, true, false, false, false, false, false, false] rfl rfl (one_of HT_.out (by kernel_rfl)) (by decide) (fun K hK => ?_)
  refine goes_ Tryd.func6 (by kernel_rfl) rfl #[.slice A0_0 l0_0.length c0_0] (by rfl) rfl rfl argsOk ?_
  with_reducible refine (selvagelaw10_changes.calls _ _ l0_0 t419 _ ?side1 ?side2 A2.out).mono ?_
  (case side1 => exact kcU HR0_0 HB)
  (case side2 => exact HC0_0.out)
  rintro e w9 ⟨v420, rfl, ho0, hb⟩
  refine ⟨_, rfl, ?_⟩
  have HO421 := Aside0.mk (Kd.R_lower ho0 (below_size (belPut)))
  replace BK418 := bkD BK418 hb
  replace HB := hbD HB hb
  (try clear hb)
  (try clear hb2)
  (try clear hk)
  (try clear hi)
  (try clear ho0)
  refine hK.out _ _ ⟨bc BK418 0, bc BK418 1, bc BK418 2, bc BK418 3⟩ (fun hHeld => ?_)
  clear hK K
  refine norm_ (a' := ?_) ?_ ?_
  rotate_left
  ·show Act.put _ (some 16) _ = _
   simp only [Act.put, List.setIfInBounds_toArray, List.set_cons_zero, List.set_cons_succ, i64_w, i32_w]
   rfl
  refine one_ (i := 5) (N := some 19) #[true, true, true, true, true, true, true, true, false, true, true, false, false, false, false, false, false] rfl rfl (one_of HT_.out (by kernel_rfl)) (by decide) (fun K hK => ?_)
  refine goes_ Tryd.func7 (by kernel_rfl) rfl #[.slice A0_1 l0_1.length c0_1] (by rfl) rfl rfl argsOk ?_
  with_reducible refine (selvagelaw10_texts.calls _ _ l0_1 t422 _ ?side1 ?side2 A3.out).mono ?_
  (case side1 => exact kcU HR0_1 HB)
  (case side2 => exact HC0_1.out)
  rintro e w10 ⟨v423, rfl, ho0, hb⟩
  refine ⟨_, rfl, ?_⟩
  replace HO421 := Aside0.mk (Kd.R_below (kdUp HO421.out) hb)
  have HO424 := Aside0.mk (Kd.R_lower ho0 (below_size (belPut)))
  replace BK418 := bkD BK418 hb
  replace HB := hbD HB hb
  (try clear hb)
  (try clear hb2)
  (try clear hk)
  (try clear hi)
  (try clear ho0)
  refine hK.out _ _ ⟨bc BK418 0, bc BK418 1, bc BK418 2, bc BK418 3⟩ (fun hHeld => ?_)
  clear hK K
  refine norm_ (a' := ?_) ?_ ?_
  rotate_left
  ·show Act.put _ (some 19) _ = _
   simp only [Act.put, List.setIfInBounds_toArray, List.set_cons_zero, List.set_cons_succ, i64_w, i32_w]
   rfl
  refine one_ (i := 8) (N := some 22) #[true, true, true, true, true, true, true, true, true, true, true, false, false, false, false, false, false] rfl rfl (one_of HT_.out (by kernel_rfl)) (by decide) (fun K hK => ?_)
  refine goes_ Tryd.func7 (by kernel_rfl) rfl #[.slice A0_2 l0_2.length c0_2] (by rfl) rfl rfl argsOk ?_
  with_reducible refine (selvagelaw10_texts.calls _ _ l0_2 t425 _ ?side1 ?side2 A4.out).mono ?_
  (case side1 => exact kcU HR0_2 HB)
  (case side2 => exact HC0_2.out)
  rintro e w11 ⟨v426, rfl, ho0, hb⟩
  refine ⟨_, rfl, ?_⟩
  replace HO421 := Aside0.mk (Kd.R_below (kdUp HO421.out) hb)
  have HO427 := Aside0.mk (Kd.R_lower (Kd.R_new' ho0 (Kd.R_lt (kdUp HO424.out))) (below_size (belPut)))
  replace HO424 := Aside0.mk (Kd.R_elder' (kdUp HO424.out) (Kd.R_base ho0) hb)
  replace BK418 := bkD BK418 hb
  replace HB := hbD HB hb
  (try clear hb)
  (try clear hb2)
  (try clear hk)
  (try clear hi)
  (try clear ho0)
  obtain ⟨Ao12, co12, eo12⟩ := Kd.R_slice HO421.out
  (first | subst eo12 | (injection eo12 with f1_ f2_ f3_; have f4_ := f1_.symm; have f5_ := f3_.symm; clear f1_ f2_ f3_; subst f4_; subst f5_))
  obtain ⟨Ao13, co13, eo13⟩ := Kd.R_slice HO424.out
  (first | subst eo13 | (injection eo13 with f1_ f2_ f3_; have f4_ := f1_.symm; have f5_ := f3_.symm; clear f1_ f2_ f3_; subst f4_; subst f5_))
  obtain ⟨Ao14, co14, eo14⟩ := Kd.R_slice HO427.out
  (first | subst eo14 | (injection eo14 with f1_ f2_ f3_; have f4_ := f1_.symm; have f5_ := f3_.symm; clear f1_ f2_ f3_; subst f4_; subst f5_))
  refine hK.out _ _ ⟨bc BK418 0, bc BK418 1, bc BK418 2, bc BK418 3⟩ (fun hHeld => ?_)
  clear hK K
  refine norm_ (a' := ?_) ?_ ?_
  rotate_left
  ·show Act.put _ (some 22) _ = _
   simp only [Act.put, List.setIfInBounds_toArray, List.set_cons_zero, List.set_cons_succ, i64_w, i32_w]
   rfl
  refine one_ (i := 11) (N := some 25) #[true, true, true, true, true, true, true, true, true, true, true, true, false, false, false, false, false] rfl rfl (one_of HT_.out (by kernel_rfl)) (by decide) (fun K hK => ?_)
  refine goes_ Tryd.func5 (by kernel_rfl) rfl #[.slice Ao12 t419.length co12, .slice Ao13 t422.length co13, .slice Ao14 t425.length co14, .int .i64 a0_3] (by rfl) rfl rfl argsOk ?_
  with_reducible refine (hunks_Build.calls k _ _ t419 _ _ t422 _ _ t425 a0_3 t428 none _ ?side1 ?side2 ?side3 ?side4 ?side5 ?side6 A5.out).mono ?_
  (case side1 => repeat (first | exact (Kd.R_reads' HO421.out).2.2 | (with_reducible refine Kd.C_alloc ?_ _) | (with_reducible refine Kd.C_drewN ?_ _) | (with_reducible refine Kd.C_drew ?_)))
  (case side2 => exact (Kd.R_reads' HO421.out).2.1)
  (case side3 => repeat (first | exact (Kd.R_reads' HO424.out).2.2 | (with_reducible refine Kd.C_alloc ?_ _) | (with_reducible refine Kd.C_drewN ?_ _) | (with_reducible refine Kd.C_drew ?_)))
  (case side4 => exact (Kd.R_reads' HO424.out).2.1)
  (case side5 => repeat (first | exact (Kd.R_reads' HO427.out).2.2 | (with_reducible refine Kd.C_alloc ?_ _) | (with_reducible refine Kd.C_drewN ?_ _) | (with_reducible refine Kd.C_drew ?_)))
  (case side6 => exact (Kd.R_reads' HO427.out).2.1)
  rintro e w15 ⟨v430, rfl, ho0, hb⟩
  refine ⟨_, rfl, ?_⟩
  replace HO421 := Aside0.mk (Kd.R_below (kdUp HO421.out) hb)
  replace HO424 := Aside0.mk (Kd.R_below (kdUp HO424.out) hb)
  replace HO427 := Aside0.mk (Kd.R_below (kdUp HO427.out) hb)
  have HO431 := Aside0.mk (Kd.S_lower ho0 (below_size (belPut)))
  replace BK418 := bkD BK418 hb
  replace HB := hbD HB hb
  (try clear hb)
  (try clear hb2)
  (try clear hk)
  (try clear hi)
  (try clear ho0)
  (try simp only [errW_none, errW_some])
  refine hK.out _ _ ⟨bc BK418 0, bc BK418 1, bc BK418 2, bc BK418 3⟩ (fun hHeld => ?_)
  clear hK K
  refine norm_ (a' := ?_) ?_ ?_
  rotate_left
  ·show Act.put _ (some 25) _ = _
   simp only [Act.put, List.setIfInBounds_toArray, List.set_cons_zero, List.set_cons_succ, i64_w, i32_w]
   rfl
  refine pureT 12 ?_
  refine pureT 13 ?_
  refine pureT 14 ?_
  refine pureT 15 ?_
  refine pureT 16 ?_
  refine done_ (done_of HT_.out (by kernel_rfl)) ?_
  have hcz16_0 := bkc (v := .slice A0_0 l0_0.length c0_0) BK418.out 0 rfl
  have hcz16_1 := bkc (v := .slice A0_1 l0_1.length c0_1) BK418.out 1 rfl
  have hcz16_2 := bkc (v := .slice A0_2 l0_2.length c0_2) BK418.out 2 rfl
  have hcz16_3 := bkc (v := .int .i64 a0_3) BK418.out 3 rfl
  have hfz16_0 := blk_frozen BK418.out 0
  have hfz16_1 := blk_frozen BK418.out 1
  have hfz16_2 := blk_frozen BK418.out 2
  have hfz16_3 := blk_frozen BK418.out 3
  try go_wp2_with (first | ((with_reducible refine gate_callee (f := 9) rfl ?_); refine goL (some 40) Tryd.func9 #[.slice A0_0 l0_0.length c0_0, .int .i64 (l0_1.length : Int), .int .i64 (l0_2.length : Int)] ?_; (with_reducible refine (selvageref06_Pairs.calls k _ _ l0_0 (l0_1.length : Int) (l0_2.length : Int) t433 t434 _ ?side1 ?side2 A6.out).mono ?_); (case side1 => exact kcU HR0_0 HB); (case side2 => exact HC0_0.out); rintro e w17 ⟨v435, rfl, ho0, hb⟩; refine ⟨_, rfl, ?_⟩; replace HO421 := Aside0.mk (Kd.R_below (kdUp HO421.out) hb); replace HO424 := Aside0.mk (Kd.R_below (kdUp HO424.out) hb); replace HO427 := Aside0.mk (Kd.R_below (kdUp HO427.out) hb); replace HO431 := Aside0.mk (Kd.S_below (by (with_reducible repeat (first | apply Kd.S_alloc | apply Kd.S_drewN | apply Kd.S_drew)); exact HO431.out) hb); have HO436 := Aside0.mk (Kd.R_lower ho0 (below_size (belPut))); replace BK418 := bkD BK418 hb; replace HB := hbD HB hb; clear hb; (try clear ho0)))
  go_loopg [7] k (fun kq v7 w' => ∃ (x7_1 : Int), v7 = .int .i64 x7_1 ∧ Aside0 (selvagelaw10_HunksTurned.l0 kq t428 t433 x7_1 l0_0 l0_1 l0_2 a0_3 = some r) ∧ Aside0 (kq ≤ k) ∧ Aside0 (Kd.S k41 41 w' w.heap.size (fun _ => True) v430 t428) ∧ Aside0 (Kd.R k37 37 w' w.heap.size (fun _ => True) v435 t433) ∧ Aside0 (w'.heap[gb418]? = some (.cells #[(.slice A0_0 l0_0.length c0_0), (.slice A0_1 l0_1.length c0_1), (.slice A0_2 l0_2.length c0_2), .int .i64 a0_3] 25 (0, 0))) ∧ Aside0 (Below w.heap.size w w'))
  case atStart => exact ⟨(0), eqNow, H', ⟨Nat.le_refl _⟩, ⟨kdMv HO431⟩, ⟨kdMv HO436⟩, ⟨bkUp BK418.out⟩, ⟨belPut⟩⟩
  case round =>
   clear H'
   try clear hcz16_0 hcz16_1 hcz16_2 hcz16_3 hfz16_0 hfz16_1 hfz16_2 hfz16_3
   try clear q432
   obtain ⟨x7_1, rfl, HA, HK1, HO_3, HO_5, BK418, HB⟩ := hrel
   cases gk with
   | zero => exact absurd HA.out (by simp [selvagelaw10_HunksTurned.l0])
   | succ k1 =>
    have H := HA.out
    clear HA
    simp only [selvagelaw10_HunksTurned.l0] at H
    replace H := itL H
    rcases H with ⟨-, c18b0, H⟩ | ⟨-, c18b0, H⟩
    ·replace H := itLn H
     rcases H with ⟨_, _, H⟩ | ⟨-, c19b0, H⟩
     ·cases H
     replace H := itLn H
     rcases H with ⟨_, _, H⟩ | ⟨-, c20b0, H⟩
     ·cases H
     replace H := itLn H
     rcases H with ⟨_, _, H⟩ | ⟨-, c21b0, H⟩
     ·cases H
     replace H := itLn H
     rcases H with ⟨_, _, H⟩ | ⟨-, c22b0, H⟩
     ·cases H
     replace H := itLn H
     rcases H with ⟨_, _, H⟩ | ⟨-, c23b0, H⟩
     ·cases H
     replace H := itE H
     rcases H with ⟨-, c24b0, c24b1, H⟩ | ⟨c24, c24b0, c24b1, H⟩
     ·have H' := Aside0.mk H
      clear H
      obtain ⟨Ao25, co25, eo25⟩ := Kd.R_slice HO_5.out
      subst eo25
      try go_wp2
      replace HO_3 := Aside0.mk (Kd.S_drew HO_3.out)
      replace HO_5 := Aside0.mk (Kd.R_drew HO_5.out)
      replace BK418 := Aside0.mk (blk_drew BK418.out)
      replace HB := Aside0.mk (below_drew1 HB.out)
      have p437 : 0 ≤ (x7_1 : Int) := ofDec
      have q437 : x7_1 < (t433.length : Int) := ofDec
      obtain ⟨ad437, e437, hx437_0, hx437_1⟩ := at_T37 (Kd.R_reads' HO_5.out).2.2 x7_1 p437 q437
      cases e437
      replace p437 := eq_true p437
      replace q437 := eq_true q437
      have p438 : 0 ≤ (((rd_T37 t433 x7_1).f0) : Int) := ofDec
      have q438 : ((rd_T37 t433 x7_1).f0) < (l0_1.length : Int) := ofDec
      obtain ⟨ad438, e438, hx438_0⟩ := Kd.at_string HR0_1.out ((rd_T37 t433 x7_1).f0) p438 q438
      have hw438_0 := hx438_0
      cases e438
      replace hx438_0 := cUp HB.out hx438_0
      replace p438 := eq_true p438
      replace q438 := eq_true q438
      have p439 : 0 ≤ (x7_1 : Int) := ofDec
      have q439 : x7_1 < (t433.length : Int) := ofDec
      obtain ⟨ad439, e439, hx439_0, hx439_1⟩ := at_T37 (Kd.R_reads' HO_5.out).2.2 x7_1 p439 q439
      obtain rfl : ad437 = ad439 := (by injection e439)
      replace p439 := eq_true p439
      replace q439 := eq_true q439
      have p440 : 0 ≤ (((rd_T37 t433 x7_1).f1) : Int) := ofDec
      have q440 : ((rd_T37 t433 x7_1).f1) < (l0_2.length : Int) := ofDec
      obtain ⟨ad440, e440, hx440_0⟩ := Kd.at_string HR0_2.out ((rd_T37 t433 x7_1).f1) p440 q440
      have hw440_0 := hx440_0
      cases e440
      replace hx440_0 := cUp HB.out hx440_0
      replace p440 := eq_true p440
      replace q440 := eq_true q440
      refine start_ (n := 19) (S := fun w' => w'.cell? ⟨gb418, 0, none⟩ = some (.slice A0_0 l0_0.length c0_0) ∧ w'.cell? ⟨gb418, 1, none⟩ = some (.slice (some ad438) l0_1.length c0_1) ∧ w'.cell? ⟨gb418, 2, none⟩ = some (.slice (some ad440) l0_2.length c0_2) ∧ w'.cell? ⟨gb418, 3, none⟩ = some (.int .i64 a0_3) ∧ w'.cell? (ad437.add ((x7_1).toNat * 2)) = some (.int .i64 ((rd_T37 t433 x7_1).f0)) ∧ w'.cell? ⟨(ad437.add ((x7_1).toNat * 2)).block, (ad437.add ((x7_1).toNat * 2)).off + 1, none⟩ = some (.int .i64 ((rd_T37 t433 x7_1).f1)) ∧ w'.cell? (ad438.add (((rd_T37 t433 x7_1).f0)).toNat) = some (.string (rdOf ByteArray.empty l0_1 ((rd_T37 t433 x7_1).f0))) ∧ w'.cell? (ad437.add ((x7_1).toNat * 2)) = some (.int .i64 ((rd_T37 t433 x7_1).f0)) ∧ w'.cell? ⟨(ad437.add ((x7_1).toNat * 2)).block, (ad437.add ((x7_1).toNat * 2)).off + 1, none⟩ = some (.int .i64 ((rd_T37 t433 x7_1).f1)) ∧ w'.cell? (ad440.add (((rd_T37 t433 x7_1).f1)).toNat) = some (.string (rdOf ByteArray.empty l0_2 ((rd_T37 t433 x7_1).f1)))) (ds := []) #[false, false, false, false, false, false, false, false, false, false, false, false, false, false, false, false, false, false, false] (by kernel_rfl) rfl rfl ⟨bc BK418 0, bc BK418 1, bc BK418 2, bc BK418 3, hx437_0, hx437_1, (cUp HB.out hw438_0 :), hx439_0, hx439_1, (cUp HB.out hw440_0 :)⟩ (fun hHeld => ?_); refine with_tabW selvagelaw10_HunksTurned.tab8 selvagelaw10_HunksTurned.bits8 (fun HT_ HW_ => ?_)
      generalize wr.drew = w26 at HO_3 HO_5 BK418 HB hx437_0 hx437_1 hx438_0 hx439_0 hx439_1 hx440_0 hHeld ⊢
      refine pureT 0 ?_
      refine pureT 2 ?_
      refine pureT 3 ?_
      refine pureT 4 ?_
      refine pureT 5 ?_
      refine pureT 9 ?_
      refine pureT 11 ?_
      refine pureT 12 ?_
      refine pureT 13 ?_
      refine pureT 14 ?_
      refine takeT 1 hHeld ?_
      refine takeT 6 hHeld ?_
      refine pureT 7 ?_
      refine takeT 8 hHeld ?_
      refine takeT 10 hHeld ?_
      refine takeT 15 hHeld ?_
      refine pureT 16 ?_
      refine takeT 17 hHeld ?_
      refine pureT 18 ?_
      refine done_ (done_of HT_.out (by kernel_rfl)) ?_
      try go_wp2
      go_roundg k1
      case measure => have := HK1.out; omega
      case rel => exact ⟨(wrap64 (x7_1 + 1)), eqNow, H', ⟨by have := HK1.out; omega⟩, ⟨kdMv HO_3⟩, ⟨kdMv HO_5⟩, ⟨bkUp BK418.out⟩, ⟨belPut⟩⟩
     replace H := bdS H
     obtain ⟨t441, A27, H⟩ := H
     obtain rfl := Option.some.inj H
     obtain ⟨Ao28, co28, eo28⟩ := Kd.R_slice HO_5.out
     subst eo28
     try go_wp2
     replace HO_3 := Aside0.mk (Kd.S_drew HO_3.out)
     replace HO_5 := Aside0.mk (Kd.R_drew HO_5.out)
     replace BK418 := Aside0.mk (blk_drew BK418.out)
     replace HB := Aside0.mk (below_drew1 HB.out)
     have p437 : 0 ≤ (x7_1 : Int) := ofDec
     have q437 : x7_1 < (t433.length : Int) := ofDec
     obtain ⟨ad437, e437, hx437_0, hx437_1⟩ := at_T37 (Kd.R_reads' HO_5.out).2.2 x7_1 p437 q437
     cases e437
     replace p437 := eq_true p437
     replace q437 := eq_true q437
     have p438 : 0 ≤ (((rd_T37 t433 x7_1).f0) : Int) := ofDec
     have q438 : ((rd_T37 t433 x7_1).f0) < (l0_1.length : Int) := ofDec
     obtain ⟨ad438, e438, hx438_0⟩ := Kd.at_string HR0_1.out ((rd_T37 t433 x7_1).f0) p438 q438
     have hw438_0 := hx438_0
     cases e438
     replace hx438_0 := cUp HB.out hx438_0
     replace p438 := eq_true p438
     replace q438 := eq_true q438
     have p439 : 0 ≤ (x7_1 : Int) := ofDec
     have q439 : x7_1 < (t433.length : Int) := ofDec
     obtain ⟨ad439, e439, hx439_0, hx439_1⟩ := at_T37 (Kd.R_reads' HO_5.out).2.2 x7_1 p439 q439
     obtain rfl : ad437 = ad439 := (by injection e439)
     replace p439 := eq_true p439
     replace q439 := eq_true q439
     have p440 : 0 ≤ (((rd_T37 t433 x7_1).f1) : Int) := ofDec
     have q440 : ((rd_T37 t433 x7_1).f1) < (l0_2.length : Int) := ofDec
     obtain ⟨ad440, e440, hx440_0⟩ := Kd.at_string HR0_2.out ((rd_T37 t433 x7_1).f1) p440 q440
     have hw440_0 := hx440_0
     cases e440
     replace hx440_0 := cUp HB.out hx440_0
     replace p440 := eq_true p440
     replace q440 := eq_true q440
     refine start_ (n := 19) (S := fun w' => w'.cell? ⟨gb418, 0, none⟩ = some (.slice A0_0 l0_0.length c0_0) ∧ w'.cell? ⟨gb418, 1, none⟩ = some (.slice (some ad438) l0_1.length c0_1) ∧ w'.cell? ⟨gb418, 2, none⟩ = some (.slice (some ad440) l0_2.length c0_2) ∧ w'.cell? ⟨gb418, 3, none⟩ = some (.int .i64 a0_3) ∧ w'.cell? (ad437.add ((x7_1).toNat * 2)) = some (.int .i64 ((rd_T37 t433 x7_1).f0)) ∧ w'.cell? ⟨(ad437.add ((x7_1).toNat * 2)).block, (ad437.add ((x7_1).toNat * 2)).off + 1, none⟩ = some (.int .i64 ((rd_T37 t433 x7_1).f1)) ∧ w'.cell? (ad438.add (((rd_T37 t433 x7_1).f0)).toNat) = some (.string (rdOf ByteArray.empty l0_1 ((rd_T37 t433 x7_1).f0))) ∧ w'.cell? (ad437.add ((x7_1).toNat * 2)) = some (.int .i64 ((rd_T37 t433 x7_1).f0)) ∧ w'.cell? ⟨(ad437.add ((x7_1).toNat * 2)).block, (ad437.add ((x7_1).toNat * 2)).off + 1, none⟩ = some (.int .i64 ((rd_T37 t433 x7_1).f1)) ∧ w'.cell? (ad440.add (((rd_T37 t433 x7_1).f1)).toNat) = some (.string (rdOf ByteArray.empty l0_2 ((rd_T37 t433 x7_1).f1)))) (ds := []) #[false, false, false, false, false, false, false, false, false, false, false, false, false, false, false, false, false, false, false] (by kernel_rfl) rfl rfl ⟨bc BK418 0, bc BK418 1, bc BK418 2, bc BK418 3, hx437_0, hx437_1, (cUp HB.out hw438_0 :), hx439_0, hx439_1, (cUp HB.out hw440_0 :)⟩ (fun hHeld => ?_); refine with_tabW selvagelaw10_HunksTurned.tab8 selvagelaw10_HunksTurned.bits8 (fun HT_ HW_ => ?_)
     generalize wr.drew = w29 at HO_3 HO_5 BK418 HB hx437_0 hx437_1 hx438_0 hx439_0 hx439_1 hx440_0 hHeld ⊢
     refine pureT 0 ?_
     refine pureT 2 ?_
     refine pureT 3 ?_
     refine pureT 4 ?_
     refine pureT 5 ?_
     refine pureT 9 ?_
     refine pureT 11 ?_
     refine pureT 12 ?_
     refine pureT 13 ?_
     refine pureT 14 ?_
     refine takeT 1 hHeld ?_
     refine takeT 6 hHeld ?_
     refine pureT 7 ?_
     refine takeT 8 hHeld ?_
     refine takeT 10 hHeld ?_
     refine takeT 15 hHeld ?_
     refine pureT 16 ?_
     refine takeT 17 hHeld ?_
     refine pureT 18 ?_
     refine done_ (done_of HT_.out (by kernel_rfl)) ?_
     try go_wp2_with (first | ((with_reducible refine gate_callee (f := 8) rfl ?_); refine goL (some 68) Tryd.func8 #[] ?_; (with_reducible refine (selvagelaw10_works.calls k1  t441 _ ?side1 A27.out).mono ?_); (case side1 => exact Glob.below hGL (belPut)); rintro e w30 ⟨rfl, hb⟩; refine ⟨_, rfl, ?_⟩; replace HO_3 := Aside0.mk (Kd.S_below (by (with_reducible repeat (first | apply Kd.S_alloc | apply Kd.S_drewN | apply Kd.S_drew)); exact HO_3.out) hb); replace HO_5 := Aside0.mk (Kd.R_below (kdUp HO_5.out) hb); replace BK418 := bkD BK418 hb; replace HB := hbD HB hb; clear hb))
     go_ret
     exact ⟨eqEnd, belPut⟩
    replace H := bdS H
    obtain ⟨t442, A31, H⟩ := H
    replace H := bdS H
    obtain ⟨t445, A32, H⟩ := H
    replace H := bdS H
    obtain ⟨t448, A33, H⟩ := H
    replace H := bdS H
    obtain ⟨t451, A34, H⟩ := H
    replace H := bdS H
    obtain ⟨⟨t454, t455⟩, A35, H⟩ := H
    replace H : (if t455.isNone = true then (selvagelaw10_HunksTurned.j1 k1 t428 t454 ((t428.length : Int) != (t454.length : Int)) l0_0 l0_1 l0_2 a0_3) else (selvagelaw10_HunksTurned.j1 k1 t428 t454 true l0_0 l0_1 l0_2 a0_3)) = some r := H
    have HC36 := Aside0.mk H
    clear H
    obtain ⟨Ao37, co37, eo37⟩ := Kd.R_slice HO_5.out
    subst eo37
    try go_wp2
    replace HO_3 := Aside0.mk (Kd.S_drew HO_3.out)
    replace HO_5 := Aside0.mk (Kd.R_drew HO_5.out)
    replace BK418 := Aside0.mk (blk_drew BK418.out)
    replace HB := Aside0.mk (below_drew1 HB.out)
    refine start_ (n := 18) (S := fun w' => w'.cell? ⟨gb418, 0, none⟩ = some (.slice A0_0 l0_0.length c0_0) ∧ w'.cell? ⟨gb418, 1, none⟩ = some (.slice A0_1 l0_1.length c0_1) ∧ w'.cell? ⟨gb418, 2, none⟩ = some (.slice A0_2 l0_2.length c0_2) ∧ w'.cell? ⟨gb418, 3, none⟩ = some (.int .i64 a0_3)) (ds := []) #[false, false, false, false, false, false, false, false, false, false, false, false, false, false, false, false, false, false] (by kernel_rfl) rfl rfl ⟨bc BK418 0, bc BK418 1, bc BK418 2, bc BK418 3⟩ (fun hHeld => ?_); refine with_tabW selvagelaw10_HunksTurned.tab10 selvagelaw10_HunksTurned.bits10 (fun HT_ HW_ => ?_)
    generalize wr.drew = w38 at HO_3 HO_5 BK418 HB hHeld ⊢
    refine pureT 0 ?_
    refine pureT 4 ?_
    refine pureT 7 ?_
    refine pureT 10 ?_
    refine takeT 1 hHeld ?_
    refine takeT 5 hHeld ?_
    refine takeT 8 hHeld ?_
    refine takeT 11 hHeld ?_
    refine one_ (i := 2) (N := some 72) #[true, true, true, false, true, true, false, true, true, false, true, true, false, false, false, false, false, false] rfl rfl (one_of HT_.out (by kernel_rfl)) (by decide) (fun K hK => ?_)
    refine goes_ Tryd.func6 (by kernel_rfl) rfl #[.slice A0_0 l0_0.length c0_0] (by rfl) rfl rfl argsOk ?_
    with_reducible refine (selvagelaw10_changes.calls _ _ l0_0 t442 _ ?side1 ?side2 A31.out).mono ?_
    (case side1 => exact kcU HR0_0 HB)
    (case side2 => exact HC0_0.out)
    rintro e w39 ⟨v443, rfl, ho0, hb⟩
    refine ⟨_, rfl, ?_⟩
    replace HO_3 := Aside0.mk (Kd.S_below (by (with_reducible repeat (first | apply Kd.S_alloc | apply Kd.S_drewN | apply Kd.S_drew)); exact HO_3.out) hb)
    replace HO_5 := Aside0.mk (Kd.R_below (kdUp HO_5.out) hb)
    have HO444 := Aside0.mk (Kd.R_lower ho0 (below_size (belPut)))
    replace BK418 := bkD BK418 hb
    replace HB := hbD HB hb
    (try clear hb)
    (try clear hb2)
    (try clear hk)
    (try clear hi)
    (try clear ho0)
    obtain ⟨Ao40, co40, eo40⟩ := Kd.R_slice HO444.out
    (first | subst eo40 | (injection eo40 with f1_ f2_ f3_; have f4_ := f1_.symm; have f5_ := f3_.symm; clear f1_ f2_ f3_; subst f4_; subst f5_))
    refine hK.out _ _ ⟨bc BK418 0, bc BK418 1, bc BK418 2, bc BK418 3⟩ (fun hHeld => ?_)
    clear hK K
    refine norm_ (a' := ?_) ?_ ?_
    rotate_left
    ·show Act.put _ (some 72) _ = _
     simp only [Act.put, List.setIfInBounds_toArray, List.set_cons_zero, List.set_cons_succ, i64_w, i32_w]
     rfl
    refine one_ (i := 3) (N := some 73) #[true, true, true, true, true, true, false, true, true, false, true, true, false, false, false, false, false, false] rfl rfl (one_of HT_.out (by kernel_rfl)) (by decide) (fun K hK => ?_)
    refine goes_ Tryd.func10 (by kernel_rfl) rfl #[.slice Ao40 t442.length co40] (by rfl) rfl rfl argsOk ?_
    with_reducible refine (edits_Invert.calls k1 _ _ t442 t445 _ ?side1 ?side2 A32.out).mono ?_
    (case side1 => repeat (first | exact (Kd.R_reads' HO444.out).2.2 | (with_reducible refine Kd.C_alloc ?_ _) | (with_reducible refine Kd.C_drewN ?_ _) | (with_reducible refine Kd.C_drew ?_)))
    (case side2 => exact (Kd.R_reads' HO444.out).2.1)
    rintro e w41 ⟨v446, rfl, ho0, hb⟩
    refine ⟨_, rfl, ?_⟩
    replace HO_3 := Aside0.mk (Kd.S_below (by (with_reducible repeat (first | apply Kd.S_alloc | apply Kd.S_drewN | apply Kd.S_drew)); exact HO_3.out) hb)
    replace HO_5 := Aside0.mk (Kd.R_below (kdUp HO_5.out) hb)
    have HO447 := Aside0.mk (Kd.R_lower (Kd.R_new' ho0 (Kd.R_lt (kdUp HO444.out))) (below_size (belPut)))
    replace HO444 := Aside0.mk (Kd.R_elder' (kdUp HO444.out) (Kd.R_base ho0) hb)
    replace BK418 := bkD BK418 hb
    replace HB := hbD HB hb
    (try clear hb)
    (try clear hb2)
    (try clear hk)
    (try clear hi)
    (try clear ho0)
    refine hK.out _ _ ⟨bc BK418 0, bc BK418 1, bc BK418 2, bc BK418 3⟩ (fun hHeld => ?_)
    clear hK K
    refine norm_ (a' := ?_) ?_ ?_
    rotate_left
    ·show Act.put _ (some 73) _ = _
     simp only [Act.put, List.setIfInBounds_toArray, List.set_cons_zero, List.set_cons_succ, i64_w, i32_w]
     rfl
    refine one_ (i := 6) (N := some 76) #[true, true, true, true, true, true, true, true, true, false, true, true, false, false, false, false, false, false] rfl rfl (one_of HT_.out (by kernel_rfl)) (by decide) (fun K hK => ?_)
    refine goes_ Tryd.func7 (by kernel_rfl) rfl #[.slice A0_2 l0_2.length c0_2] (by rfl) rfl rfl argsOk ?_
    with_reducible refine (selvagelaw10_texts.calls _ _ l0_2 t448 _ ?side1 ?side2 A33.out).mono ?_
    (case side1 => exact kcU HR0_2 HB)
    (case side2 => exact HC0_2.out)
    rintro e w42 ⟨v449, rfl, ho0, hb⟩
    refine ⟨_, rfl, ?_⟩
    replace HO_3 := Aside0.mk (Kd.S_below (by (with_reducible repeat (first | apply Kd.S_alloc | apply Kd.S_drewN | apply Kd.S_drew)); exact HO_3.out) hb)
    replace HO_5 := Aside0.mk (Kd.R_below (kdUp HO_5.out) hb)
    replace HO444 := Aside0.mk (Kd.R_below (kdUp HO444.out) hb)
    replace HO447 := Aside0.mk (Kd.R_below (kdUp HO447.out) hb)
    have HO450 := Aside0.mk (Kd.R_lower ho0 (below_size (belPut)))
    replace BK418 := bkD BK418 hb
    replace HB := hbD HB hb
    (try clear hb)
    (try clear hb2)
    (try clear hk)
    (try clear hi)
    (try clear ho0)
    refine hK.out _ _ ⟨bc BK418 0, bc BK418 1, bc BK418 2, bc BK418 3⟩ (fun hHeld => ?_)
    clear hK K
    refine norm_ (a' := ?_) ?_ ?_
    rotate_left
    ·show Act.put _ (some 76) _ = _
     simp only [Act.put, List.setIfInBounds_toArray, List.set_cons_zero, List.set_cons_succ, i64_w, i32_w]
     rfl
    refine one_ (i := 9) (N := some 79) #[true, true, true, true, true, true, true, true, true, true, true, true, false, false, false, false, false, false] rfl rfl (one_of HT_.out (by kernel_rfl)) (by decide) (fun K hK => ?_)
    refine goes_ Tryd.func7 (by kernel_rfl) rfl #[.slice A0_1 l0_1.length c0_1] (by rfl) rfl rfl argsOk ?_
    with_reducible refine (selvagelaw10_texts.calls _ _ l0_1 t451 _ ?side1 ?side2 A34.out).mono ?_
    (case side1 => exact kcU HR0_1 HB)
    (case side2 => exact HC0_1.out)
    rintro e w43 ⟨v452, rfl, ho0, hb⟩
    refine ⟨_, rfl, ?_⟩
    replace HO_3 := Aside0.mk (Kd.S_below (by (with_reducible repeat (first | apply Kd.S_alloc | apply Kd.S_drewN | apply Kd.S_drew)); exact HO_3.out) hb)
    replace HO_5 := Aside0.mk (Kd.R_below (kdUp HO_5.out) hb)
    replace HO444 := Aside0.mk (Kd.R_below (kdUp HO444.out) hb)
    replace HO447 := Aside0.mk (Kd.R_below (kdUp HO447.out) hb)
    have HO453 := Aside0.mk (Kd.R_lower (Kd.R_new' ho0 (Kd.R_lt (kdUp HO450.out))) (below_size (belPut)))
    replace HO450 := Aside0.mk (Kd.R_elder' (kdUp HO450.out) (Kd.R_base ho0) hb)
    replace BK418 := bkD BK418 hb
    replace HB := hbD HB hb
    (try clear hb)
    (try clear hb2)
    (try clear hk)
    (try clear hi)
    (try clear ho0)
    obtain ⟨Ao44, co44, eo44⟩ := Kd.R_slice HO447.out
    (first | subst eo44 | (injection eo44 with f1_ f2_ f3_; have f4_ := f1_.symm; have f5_ := f3_.symm; clear f1_ f2_ f3_; subst f4_; subst f5_))
    obtain ⟨Ao45, co45, eo45⟩ := Kd.R_slice HO450.out
    (first | subst eo45 | (injection eo45 with f1_ f2_ f3_; have f4_ := f1_.symm; have f5_ := f3_.symm; clear f1_ f2_ f3_; subst f4_; subst f5_))
    obtain ⟨Ao46, co46, eo46⟩ := Kd.R_slice HO453.out
    (first | subst eo46 | (injection eo46 with f1_ f2_ f3_; have f4_ := f1_.symm; have f5_ := f3_.symm; clear f1_ f2_ f3_; subst f4_; subst f5_))
    refine hK.out _ _ ⟨bc BK418 0, bc BK418 1, bc BK418 2, bc BK418 3⟩ (fun hHeld => ?_)
    clear hK K
    refine norm_ (a' := ?_) ?_ ?_
    rotate_left
    ·show Act.put _ (some 79) _ = _
     simp only [Act.put, List.setIfInBounds_toArray, List.set_cons_zero, List.set_cons_succ, i64_w, i32_w]
     rfl
    refine one_ (i := 12) (N := some 82) #[true, true, true, true, true, true, true, true, true, true, true, true, true, false, false, false, false, false] rfl rfl (one_of HT_.out (by kernel_rfl)) (by decide) (fun K hK => ?_)
    refine goes_ Tryd.func5 (by kernel_rfl) rfl #[.slice Ao44 t445.length co44, .slice Ao45 t448.length co45, .slice Ao46 t451.length co46, .int .i64 a0_3] (by rfl) rfl rfl argsOk ?_
    with_reducible refine (hunks_Build.calls k1 _ _ t445 _ _ t448 _ _ t451 a0_3 t454 t455 _ ?side1 ?side2 ?side3 ?side4 ?side5 ?side6 A35.out).mono ?_
    (case side1 => repeat (first | exact (Kd.R_reads' HO447.out).2.2 | (with_reducible refine Kd.C_alloc ?_ _) | (with_reducible refine Kd.C_drewN ?_ _) | (with_reducible refine Kd.C_drew ?_)))
    (case side2 => exact (Kd.R_reads' HO447.out).2.1)
    (case side3 => repeat (first | exact (Kd.R_reads' HO450.out).2.2 | (with_reducible refine Kd.C_alloc ?_ _) | (with_reducible refine Kd.C_drewN ?_ _) | (with_reducible refine Kd.C_drew ?_)))
    (case side4 => exact (Kd.R_reads' HO450.out).2.1)
    (case side5 => repeat (first | exact (Kd.R_reads' HO453.out).2.2 | (with_reducible refine Kd.C_alloc ?_ _) | (with_reducible refine Kd.C_drewN ?_ _) | (with_reducible refine Kd.C_drew ?_)))
    (case side6 => exact (Kd.R_reads' HO453.out).2.1)
    rintro e w47 ⟨v456, rfl, ho0, hb⟩
    refine ⟨_, rfl, ?_⟩
    replace HO_5 := Aside0.mk (Kd.R_below (kdUp HO_5.out) hb)
    replace HO444 := Aside0.mk (Kd.R_below (kdUp HO444.out) hb)
    replace HO447 := Aside0.mk (Kd.R_below (kdUp HO447.out) hb)
    replace HO450 := Aside0.mk (Kd.R_below (kdUp HO450.out) hb)
    replace HO453 := Aside0.mk (Kd.R_below (kdUp HO453.out) hb)
    have HO457 := Aside0.mk (Kd.S_lower (Kd.S_new' ho0 (Kd.S_lt (by (with_reducible repeat (first | apply Kd.S_alloc | apply Kd.S_drewN | apply Kd.S_drew)); exact HO_3.out))) (below_size (belPut)))
    replace HO_3 := Aside0.mk (Kd.S_elder' (by (with_reducible repeat (first | apply Kd.S_alloc | apply Kd.S_drewN | apply Kd.S_drew)); exact HO_3.out) (Kd.S_base ho0) hb)
    replace BK418 := bkD BK418 hb
    replace HB := hbD HB hb
    (try clear hb)
    (try clear hb2)
    (try clear hk)
    (try clear hi)
    (try clear ho0)
    (try simp only [errW_none, errW_some])
    refine hK.out _ _ ⟨bc BK418 0, bc BK418 1, bc BK418 2, bc BK418 3⟩ (fun hHeld => ?_)
    clear hK K
    refine norm_ (a' := ?_) ?_ ?_
    rotate_left
    ·show Act.put _ (some 82) _ = _
     simp only [Act.put, List.setIfInBounds_toArray, List.set_cons_zero, List.set_cons_succ, i64_w, i32_w]
     rfl
    refine pureT 13 ?_
    refine pureT 14 ?_
    refine pureT 15 ?_
    refine pureT 16 ?_
    refine pureT 17 ?_
    refine done_ (done_of HT_.out (by kernel_rfl)) ?_
    go_upto_region 11 with (fail)
    go_cut [93] (fun v93 wc => ∃ (kq : Nat) (x93_35 : Bool), v93 = .bool x93_35 ∧ Aside0 (selvagelaw10_HunksTurned.j1 kq t428 t454 x93_35 l0_0 l0_1 l0_2 a0_3 = some r) ∧ Aside0 (kq ≤ k1) ∧ Aside0 (Kd.S k41 41 wc w.heap.size (fun k_ => some k_ ≠ (v456 : Value).ownBlock) v430 t428) ∧ Aside0 (Kd.S k41 41 wc w.heap.size (fun k_ => some k_ ≠ (v430 : Value).ownBlock) v456 t454) ∧ Aside0 (wc.heap[gb418]? = some (.cells #[(.slice A0_0 l0_0.length c0_0), (.slice A0_1 l0_1.length c0_1), (.slice A0_2 l0_2.length c0_2), .int .i64 a0_3] 25 (0, 0))) ∧ Aside0 (Below w.heap.size w wc))
    case first =>
     have H := HC36.out
     clear HC36
     rcases t455 with _ | q458
     ·have H1 : (selvagelaw10_HunksTurned.j1 k1 t428 t454 ((t428.length : Int) != (t454.length : Int)) l0_0 l0_1 l0_2 a0_3) = some r := by rw [if_pos (show (none : Option Int).isNone = true by rfl)] at H; exact H
      clear H
      have H := H1
      clear H1
      try simp only [errW_none, errW_some]
      have H' := Aside0.mk H
      clear H
      obtain ⟨Ao48, co48, eo48⟩ := Kd.S_slice HO_3.out
      subst eo48
      obtain ⟨Ao49, co49, eo49⟩ := Kd.S_slice HO457.out
      subst eo49
      go_wp2
      go_meet
      case rel => exact ⟨_, (((t428.length : Int) != (t454.length : Int))), eqNow, H', ⟨by have := HK1.out; first | omega | exact Nat.le_refl _⟩, ⟨by (with_reducible repeat (first | apply Kd.S_alloc | apply Kd.S_drewN | apply Kd.S_drew)); exact Kd.S_mono HO_3.out (fun _ hk => hk.2)⟩, ⟨by (with_reducible repeat (first | apply Kd.S_alloc | apply Kd.S_drewN | apply Kd.S_drew)); exact Kd.S_mono HO457.out (fun _ hk => hk.2)⟩, ⟨bkUp BK418.out⟩, ⟨belPut⟩⟩
     have H1 : (selvagelaw10_HunksTurned.j1 k1 t428 t454 true l0_0 l0_1 l0_2 a0_3) = some r := by rw [if_neg (show ¬ (some q458).isNone = true by simp)] at H; exact H
     clear H
     have H := H1
     clear H1
     try simp only [errW_none, errW_some]
     have H' := Aside0.mk H
     clear H
     go_wp2
     go_meet
     case rel => exact ⟨_, (true), eqNow, H', ⟨by have := HK1.out; first | omega | exact Nat.le_refl _⟩, ⟨by (with_reducible repeat (first | apply Kd.S_alloc | apply Kd.S_drewN | apply Kd.S_drew)); exact Kd.S_mono HO_3.out (fun _ hk => hk.2)⟩, ⟨by (with_reducible repeat (first | apply Kd.S_alloc | apply Kd.S_drewN | apply Kd.S_drew)); exact Kd.S_mono HO457.out (fun _ hk => hk.2)⟩, ⟨bkUp BK418.out⟩, ⟨belPut⟩⟩
    case rest =>
     clear HC36
     try clear c18
     try clear c18b0
     obtain ⟨kq, x93_35, rfl, HA, HJ35, HO_3, HO_8, BK418, HB⟩ := hcut
     cases kq with
     | zero => exact absurd HA.out (by simp [selvagelaw10_HunksTurned.j1])
     | succ kj35 =>
      have H := HA.out
      clear HA
      simp only [selvagelaw10_HunksTurned.j1] at H
      by_cases c50 : x93_35 = true
      ·rw [if_pos c50] at H
       exact absurd H (by simp)
      replace c50 := Bool.eq_false_iff.mpr c50
      subst c50
      have H1 : (selvagelaw10_HunksTurned.l1 kj35 t428 t454 0 l0_0 l0_1 l0_2 a0_3) = some r := by rw [if_neg (show ¬ (false = true) by decide)] at H; exact H
      clear H
      have H := H1
      clear H1
      have H' := Aside0.mk H
      clear H
      go_wp2
      go_loopg [10] kj35 (fun kq v10 w' => ∃ (x10_3 : Int), v10 = .int .i64 x10_3 ∧ Aside0 (selvagelaw10_HunksTurned.l1 kq t428 t454 x10_3 l0_0 l0_1 l0_2 a0_3 = some r) ∧ Aside0 (kq ≤ kj35) ∧ Aside0 (Kd.S k41 41 w' w.heap.size (fun k_ => some k_ ≠ (v456 : Value).ownBlock) v430 t428) ∧ Aside0 (Kd.S k41 41 w' w.heap.size (fun k_ => some k_ ≠ (v430 : Value).ownBlock) v456 t454) ∧ Aside0 (w'.heap[gb418]? = some (.cells #[(.slice A0_0 l0_0.length c0_0), (.slice A0_1 l0_1.length c0_1), (.slice A0_2 l0_2.length c0_2), .int .i64 a0_3] 25 (0, 0))) ∧ Aside0 (Below w.heap.size w w'))
      case atStart => exact ⟨(0), eqNow, H', ⟨Nat.le_refl _⟩, ⟨kdMv HO_3⟩, ⟨kdMv HO_8⟩, ⟨bkUp BK418.out⟩, ⟨belPut⟩⟩
      case round =>
       clear H'
       try clear c18
       try clear c18b0
       try clear c50
       obtain ⟨x10_3, rfl, HA, HK3, HO_3, HO_8, BK418, HB⟩ := hrel
       cases gk with
       | zero => exact absurd HA.out (by simp [selvagelaw10_HunksTurned.l1])
       | succ k3 =>
        have H := HA.out
        clear HA
        simp only [selvagelaw10_HunksTurned.l1] at H
        replace H := itLn H
        rcases H with ⟨-, c51b0, H⟩ | ⟨-, c51b0, H⟩
        ·replace H := bdS H
         obtain ⟨t459, A92, H⟩ := H
         obtain rfl := Option.some.inj H
         obtain ⟨Ao93, co93, eo93⟩ := Kd.S_slice HO_3.out
         subst eo93
         go_wp2_with (first | ((with_reducible refine gate_callee (f := 8) rfl ?_); refine goL (some 147) Tryd.func8 #[] ?_; (with_reducible refine (selvagelaw10_works.calls k3  t459 _ ?side1 A92.out).mono ?_); (case side1 => exact Glob.below hGL (belPut)); rintro e w94 ⟨rfl, hb⟩; refine ⟨_, rfl, ?_⟩; replace HO_3 := Aside0.mk (Kd.S_below (by (with_reducible repeat (first | apply Kd.S_alloc | apply Kd.S_drewN | apply Kd.S_drew)); exact HO_3.out) hb); replace HO_8 := Aside0.mk (Kd.S_below (by (with_reducible repeat (first | apply Kd.S_alloc | apply Kd.S_drewN | apply Kd.S_drew)); exact HO_8.out) hb); replace BK418 := bkD BK418 hb; replace HB := hbD HB hb; clear hb))
         go_ret
         exact ⟨eqEnd, belPut⟩
        have HC52 := Aside0.mk H
        clear H
        obtain ⟨Ao53, co53, eo53⟩ := Kd.S_slice HO_3.out
        subst eo53
        go_upto_region 16 with (fail)
        go_cut [124] (fun v124 wc => ∃ (kq : Nat) (x124_51 : Bool), v124 = .bool x124_51 ∧ Aside0 (selvagelaw10_HunksTurned.j3 kq t428 t454 x10_3 x124_51 l0_0 l0_1 l0_2 a0_3 = some r) ∧ Aside0 (kq ≤ k3) ∧ Aside0 (Kd.S k41 41 wc w.heap.size (fun k_ => some k_ ≠ (v456 : Value).ownBlock) (.slice Ao53 t428.length co53) t428) ∧ Aside0 (Kd.S k41 41 wc w.heap.size (fun k_ => some k_ ≠ ((.slice Ao53 t428.length co53) : Value).ownBlock) v456 t454) ∧ Aside0 (wc.heap[gb418]? = some (.cells #[(.slice A0_0 l0_0.length c0_0), (.slice A0_1 l0_1.length c0_1), (.slice A0_2 l0_2.length c0_2), .int .i64 a0_3] 25 (0, 0))) ∧ Aside0 (Below w.heap.size w wc))
        case first =>
         have H := HC52.out
         clear HC52
         replace H := itLn H
         rcases H with ⟨_, _, H⟩ | ⟨-, c54b0, H⟩
         ·cases H
         (first | rw [c54b0] | (simp only [i64_w, i32_w]; rw [c54b0]) | skip)
         replace H := bdS H
         obtain ⟨⟨t461, t462, t463, t464, t465, t466⟩, A55, H⟩ := H
         replace H : (if x10_3 < (t454.length : Int) then ((selvagelaw10_same.f k3 t461 t462 t463 t464 t465 t466 ((rd_T41 t454 x10_3).f0) ((rd_T41 t454 x10_3).f1) ((rd_T41 t454 x10_3).f2) ((rd_T41 t454 x10_3).f3) ((rd_T41 t454 x10_3).f4) ((rd_T41 t454 x10_3).f5)).bind fun t470 => (if t470 = true then ((hunks_Reverse.f ((rd_T41 t428 x10_3).f0) ((rd_T41 t428 x10_3).f1) ((rd_T41 t428 x10_3).f2) ((rd_T41 t428 x10_3).f3) ((rd_T41 t428 x10_3).f4) ((rd_T41 t428 x10_3).f5)).bind fun bt472 => ((hunks_Reverse.f bt472.1 bt472.2.1 bt472.2.2.1 bt472.2.2.2.1 bt472.2.2.2.2.1 bt472.2.2.2.2.2).bind fun bt480 => ((selvagelaw10_same.f k3 bt480.1 bt480.2.1 bt480.2.2.1 bt480.2.2.2.1 bt480.2.2.2.2.1 bt480.2.2.2.2.2 ((rd_T41 t428 x10_3).f0) ((rd_T41 t428 x10_3).f1) ((rd_T41 t428 x10_3).f2) ((rd_T41 t428 x10_3).f3) ((rd_T41 t428 x10_3).f4) ((rd_T41 t428 x10_3).f5)).bind fun t489 => (selvagelaw10_HunksTurned.j3 k3 t428 t454 x10_3 (!t489) l0_0 l0_1 l0_2 a0_3)))) else (selvagelaw10_HunksTurned.j3 k3 t428 t454 x10_3 true l0_0 l0_1 l0_2 a0_3))) else (none)) = some r := H
         replace H := itLn H
         rcases H with ⟨_, _, H⟩ | ⟨-, c56b0, H⟩
         ·cases H
         replace H := bdS H
         obtain ⟨t470, A57, H⟩ := H
         by_cases c58 : t470 = true
         rotate_left
         ·rw [if_neg c58] at H
          first | exact absurd H (by simp) | (rw [selvagelaw10_HunksTurned.j3_dead] at H; exact absurd H (by simp))
         subst c58
         have H1 : ((hunks_Reverse.f ((rd_T41 t428 x10_3).f0) ((rd_T41 t428 x10_3).f1) ((rd_T41 t428 x10_3).f2) ((rd_T41 t428 x10_3).f3) ((rd_T41 t428 x10_3).f4) ((rd_T41 t428 x10_3).f5)).bind fun bt472 => ((hunks_Reverse.f bt472.1 bt472.2.1 bt472.2.2.1 bt472.2.2.2.1 bt472.2.2.2.2.1 bt472.2.2.2.2.2).bind fun bt480 => ((selvagelaw10_same.f k3 bt480.1 bt480.2.1 bt480.2.2.1 bt480.2.2.2.1 bt480.2.2.2.2.1 bt480.2.2.2.2.2 ((rd_T41 t428 x10_3).f0) ((rd_T41 t428 x10_3).f1) ((rd_T41 t428 x10_3).f2) ((rd_T41 t428 x10_3).f3) ((rd_T41 t428 x10_3).f4) ((rd_T41 t428 x10_3).f5)).bind fun t489 => (selvagelaw10_HunksTurned.j3 k3 t428 t454 x10_3 (!t489) l0_0 l0_1 l0_2 a0_3)))) = some r := by rw [if_pos rfl] at H; exact H
         clear H
         have H := H1
         clear H1
         replace H := bdS H
         obtain ⟨⟨t472, t473, t474, t475, t476, t477⟩, A59, H⟩ := H
         replace H : ((hunks_Reverse.f t472 t473 t474 t475 t476 t477).bind fun bt480 => ((selvagelaw10_same.f k3 bt480.1 bt480.2.1 bt480.2.2.1 bt480.2.2.2.1 bt480.2.2.2.2.1 bt480.2.2.2.2.2 ((rd_T41 t428 x10_3).f0) ((rd_T41 t428 x10_3).f1) ((rd_T41 t428 x10_3).f2) ((rd_T41 t428 x10_3).f3) ((rd_T41 t428 x10_3).f4) ((rd_T41 t428 x10_3).f5)).bind fun t489 => (selvagelaw10_HunksTurned.j3 k3 t428 t454 x10_3 (!t489) l0_0 l0_1 l0_2 a0_3))) = some r := H
         replace H := bdS H
         obtain ⟨⟨t480, t481, t482, t483, t484, t485⟩, A60, H⟩ := H
         replace H : ((selvagelaw10_same.f k3 t480 t481 t482 t483 t484 t485 ((rd_T41 t428 x10_3).f0) ((rd_T41 t428 x10_3).f1) ((rd_T41 t428 x10_3).f2) ((rd_T41 t428 x10_3).f3) ((rd_T41 t428 x10_3).f4) ((rd_T41 t428 x10_3).f5)).bind fun t489 => (selvagelaw10_HunksTurned.j3 k3 t428 t454 x10_3 (!t489) l0_0 l0_1 l0_2 a0_3)) = some r := H
         replace H := bdS H
         obtain ⟨t489, A61, H⟩ := H
         have H' := Aside0.mk H
         clear H
         try go_wp2
         replace HO_3 := Aside0.mk (Kd.S_drew HO_3.out)
         replace HO_8 := Aside0.mk (Kd.S_drew HO_8.out)
         replace BK418 := Aside0.mk (blk_drew BK418.out)
         replace HB := Aside0.mk (below_drew1 HB.out)
         have p460 : 0 ≤ (x10_3 : Int) := ofDec
         have q460 : x10_3 < (t428.length : Int) := ofDec
         obtain ⟨ad460, A460_5, c460_5, e460, hx460_0, hx460_1, hx460_2, hx460_3, hx460_4, hx460_5, hl460_5, hi460_5⟩ := at_T41 (Kd.S_reads' HO_3.out).2.2 x10_3 p460 q460
         cases e460
         obtain ⟨ce460, hce460, hMe460, hcc460⟩ := Kd.S_get HO_3.out z41 x10_3 p460 (by first | exact q460 | exact ofDec | (have e_ := (Kd.S_reads' HO_3.out).1; omega))
         obtain ⟨ve460_5, rfl, ge460_5⟩ := k41_openM hMe460
         have hv460_5 := hcc460 5 _ rfl
         rw [add_field _ _ 5 (by omega)] at hv460_5
         replace hv460_5 := Option.some.inj (hv460_5.symm.trans hx460_5)
         rw [hv460_5] at ge460_5
         have HL460_5 := Aside0.mk (show Kd.R k56 56 _ _ _ _ ((rd_T41 t428 x10_3).f5) from ge460_5)
         clear hv460_5 ge460_5
         clear hcc460 hce460
         have HR460_5 := Aside0.mk hi460_5
         have HC460_5 := Aside0.mk hl460_5
         clear hi460_5 hl460_5
         replace p460 := eq_true p460
         replace q460 := eq_true q460
         obtain ⟨Ao63, co63, eo63⟩ := Kd.S_slice HO_8.out
         (first | subst eo63 | (injection eo63 with f1_ f2_ f3_; have f4_ := f1_.symm; have f5_ := f3_.symm; clear f1_ f2_ f3_; subst f4_; subst f5_))
         have p469 : 0 ≤ (x10_3 : Int) := ofDec
         have q469 : x10_3 < (t454.length : Int) := ofDec
         obtain ⟨ad469, A469_5, c469_5, e469, hx469_0, hx469_1, hx469_2, hx469_3, hx469_4, hx469_5, hl469_5, hi469_5⟩ := at_T41 (Kd.S_reads' HO_8.out).2.2 x10_3 p469 q469
         cases e469
         obtain ⟨ce469, hce469, hMe469, hcc469⟩ := Kd.S_get HO_8.out z41 x10_3 p469 (by first | exact q469 | exact ofDec | (have e_ := (Kd.S_reads' HO_8.out).1; omega))
         obtain ⟨ve469_5, rfl, ge469_5⟩ := k41_openM hMe469
         have hv469_5 := hcc469 5 _ rfl
         rw [add_field _ _ 5 (by omega)] at hv469_5
         replace hv469_5 := Option.some.inj (hv469_5.symm.trans hx469_5)
         rw [hv469_5] at ge469_5
         have HL469_5 := Aside0.mk (show Kd.R k56 56 _ _ _ _ ((rd_T41 t454 x10_3).f5) from ge469_5)
         clear hv469_5 ge469_5
         clear hcc469 hce469
         have HR469_5 := Aside0.mk hi469_5
         have HC469_5 := Aside0.mk hl469_5
         clear hi469_5 hl469_5
         replace p469 := eq_true p469
         replace q469 := eq_true q469
         have p471 : 0 ≤ (x10_3 : Int) := ofDec
         have q471 : x10_3 < (t428.length : Int) := ofDec
         obtain ⟨ad471, A471_5, c471_5, e471, hx471_0, hx471_1, hx471_2, hx471_3, hx471_4, hx471_5, hl471_5, hi471_5⟩ := at_T41 (Kd.S_reads' HO_3.out).2.2 x10_3 p471 q471
         obtain rfl : ad460 = ad471 := (by injection e471)
         obtain ⟨rfl, rfl⟩ : A460_5 = A471_5 ∧ c460_5 = c471_5 := by
          have e_ := hx460_5.symm.trans hx471_5
          simp only [Option.some.injEq, Value.slice.injEq] at e_
          exact ⟨e_.1, e_.2.2⟩
         obtain ⟨ce471, hce471, hMe471, hcc471⟩ := Kd.S_get HO_3.out z41 x10_3 p471 (by first | exact q471 | exact ofDec | (have e_ := (Kd.S_reads' HO_3.out).1; omega))
         obtain ⟨ve471_5, rfl, ge471_5⟩ := k41_openM hMe471
         have hv471_5 := hcc471 5 _ rfl
         rw [add_field _ _ 5 (by omega)] at hv471_5
         replace hv471_5 := Option.some.inj (hv471_5.symm.trans hx471_5)
         rw [hv471_5] at ge471_5
         have HL471_5 := Aside0.mk (show Kd.R k56 56 _ _ _ _ ((rd_T41 t428 x10_3).f5) from ge471_5)
         clear hv471_5 ge471_5
         clear hcc471 hce471
         have HR471_5 := Aside0.mk hi471_5
         have HC471_5 := Aside0.mk hl471_5
         clear hi471_5 hl471_5
         replace p471 := eq_true p471
         replace q471 := eq_true q471
         have p488 : 0 ≤ (x10_3 : Int) := ofDec
         have q488 : x10_3 < (t428.length : Int) := ofDec
         obtain ⟨ad488, A488_5, c488_5, e488, hx488_0, hx488_1, hx488_2, hx488_3, hx488_4, hx488_5, hl488_5, hi488_5⟩ := at_T41 (Kd.S_reads' HO_3.out).2.2 x10_3 p488 q488
         obtain rfl : ad460 = ad488 := (by injection e488)
         obtain ⟨rfl, rfl⟩ : A460_5 = A488_5 ∧ c460_5 = c488_5 := by
          have e_ := hx460_5.symm.trans hx488_5
          simp only [Option.some.injEq, Value.slice.injEq] at e_
          exact ⟨e_.1, e_.2.2⟩
         obtain ⟨ce488, hce488, hMe488, hcc488⟩ := Kd.S_get HO_3.out z41 x10_3 p488 (by first | exact q488 | exact ofDec | (have e_ := (Kd.S_reads' HO_3.out).1; omega))
         obtain ⟨ve488_5, rfl, ge488_5⟩ := k41_openM hMe488
         have hv488_5 := hcc488 5 _ rfl
         rw [add_field _ _ 5 (by omega)] at hv488_5
         replace hv488_5 := Option.some.inj (hv488_5.symm.trans hx488_5)
         rw [hv488_5] at ge488_5
         have HL488_5 := Aside0.mk (show Kd.R k56 56 _ _ _ _ ((rd_T41 t428 x10_3).f5) from ge488_5)
         clear hv488_5 ge488_5
         clear hcc488 hce488
         have HR488_5 := Aside0.mk hi488_5
         have HC488_5 := Aside0.mk hl488_5
         clear hi488_5 hl488_5
         replace p488 := eq_true p488
         replace q488 := eq_true q488
         refine start_ (n := 25) (S := fun w' => w'.cell? (ad460.add ((x10_3).toNat * 6)) = some (.int .i64 ((rd_T41 t428 x10_3).f0)) ∧ w'.cell? ⟨(ad460.add ((x10_3).toNat * 6)).block, (ad460.add ((x10_3).toNat * 6)).off + 1, none⟩ = some (.int .i64 ((rd_T41 t428 x10_3).f1)) ∧ w'.cell? ⟨(ad460.add ((x10_3).toNat * 6)).block, (ad460.add ((x10_3).toNat * 6)).off + 2, none⟩ = some (.int .i64 ((rd_T41 t428 x10_3).f2)) ∧ w'.cell? ⟨(ad460.add ((x10_3).toNat * 6)).block, (ad460.add ((x10_3).toNat * 6)).off + 3, none⟩ = some (.int .i64 ((rd_T41 t428 x10_3).f3)) ∧ w'.cell? ⟨(ad460.add ((x10_3).toNat * 6)).block, (ad460.add ((x10_3).toNat * 6)).off + 4, none⟩ = some (.string ((rd_T41 t428 x10_3).f4)) ∧ w'.cell? ⟨(ad460.add ((x10_3).toNat * 6)).block, (ad460.add ((x10_3).toNat * 6)).off + 5, none⟩ = some (.slice A460_5 ((rd_T41 t428 x10_3).f5).length c460_5) ∧ w'.cell? (ad469.add ((x10_3).toNat * 6)) = some (.int .i64 ((rd_T41 t454 x10_3).f0)) ∧ w'.cell? ⟨(ad469.add ((x10_3).toNat * 6)).block, (ad469.add ((x10_3).toNat * 6)).off + 1, none⟩ = some (.int .i64 ((rd_T41 t454 x10_3).f1)) ∧ w'.cell? ⟨(ad469.add ((x10_3).toNat * 6)).block, (ad469.add ((x10_3).toNat * 6)).off + 2, none⟩ = some (.int .i64 ((rd_T41 t454 x10_3).f2)) ∧ w'.cell? ⟨(ad469.add ((x10_3).toNat * 6)).block, (ad469.add ((x10_3).toNat * 6)).off + 3, none⟩ = some (.int .i64 ((rd_T41 t454 x10_3).f3)) ∧ w'.cell? ⟨(ad469.add ((x10_3).toNat * 6)).block, (ad469.add ((x10_3).toNat * 6)).off + 4, none⟩ = some (.string ((rd_T41 t454 x10_3).f4)) ∧ w'.cell? ⟨(ad469.add ((x10_3).toNat * 6)).block, (ad469.add ((x10_3).toNat * 6)).off + 5, none⟩ = some (.slice A469_5 ((rd_T41 t454 x10_3).f5).length c469_5) ∧ w'.cell? (ad460.add ((x10_3).toNat * 6)) = some (.int .i64 ((rd_T41 t428 x10_3).f0)) ∧ w'.cell? ⟨(ad460.add ((x10_3).toNat * 6)).block, (ad460.add ((x10_3).toNat * 6)).off + 1, none⟩ = some (.int .i64 ((rd_T41 t428 x10_3).f1)) ∧ w'.cell? ⟨(ad460.add ((x10_3).toNat * 6)).block, (ad460.add ((x10_3).toNat * 6)).off + 2, none⟩ = some (.int .i64 ((rd_T41 t428 x10_3).f2)) ∧ w'.cell? ⟨(ad460.add ((x10_3).toNat * 6)).block, (ad460.add ((x10_3).toNat * 6)).off + 3, none⟩ = some (.int .i64 ((rd_T41 t428 x10_3).f3)) ∧ w'.cell? ⟨(ad460.add ((x10_3).toNat * 6)).block, (ad460.add ((x10_3).toNat * 6)).off + 4, none⟩ = some (.string ((rd_T41 t428 x10_3).f4)) ∧ w'.cell? ⟨(ad460.add ((x10_3).toNat * 6)).block, (ad460.add ((x10_3).toNat * 6)).off + 5, none⟩ = some (.slice A460_5 ((rd_T41 t428 x10_3).f5).length c460_5) ∧ w'.cell? (ad460.add ((x10_3).toNat * 6)) = some (.int .i64 ((rd_T41 t428 x10_3).f0)) ∧ w'.cell? ⟨(ad460.add ((x10_3).toNat * 6)).block, (ad460.add ((x10_3).toNat * 6)).off + 1, none⟩ = some (.int .i64 ((rd_T41 t428 x10_3).f1)) ∧ w'.cell? ⟨(ad460.add ((x10_3).toNat * 6)).block, (ad460.add ((x10_3).toNat * 6)).off + 2, none⟩ = some (.int .i64 ((rd_T41 t428 x10_3).f2)) ∧ w'.cell? ⟨(ad460.add ((x10_3).toNat * 6)).block, (ad460.add ((x10_3).toNat * 6)).off + 3, none⟩ = some (.int .i64 ((rd_T41 t428 x10_3).f3)) ∧ w'.cell? ⟨(ad460.add ((x10_3).toNat * 6)).block, (ad460.add ((x10_3).toNat * 6)).off + 4, none⟩ = some (.string ((rd_T41 t428 x10_3).f4)) ∧ w'.cell? ⟨(ad460.add ((x10_3).toNat * 6)).block, (ad460.add ((x10_3).toNat * 6)).off + 5, none⟩ = some (.slice A460_5 ((rd_T41 t428 x10_3).f5).length c460_5)) (ds := []) #[false, false, false, false, false, false, false, false, false, false, false, false, false, false, false, false, false, false, false, false, false, false, false, false, false] (by kernel_rfl) rfl rfl ⟨hx460_0, hx460_1, hx460_2, hx460_3, hx460_4, hx460_5, hx469_0, hx469_1, hx469_2, hx469_3, hx469_4, hx469_5, hx471_0, hx471_1, hx471_2, hx471_3, hx471_4, hx471_5, hx488_0, hx488_1, hx488_2, hx488_3, hx488_4, hx488_5⟩ (fun hHeld => ?_); refine with_tabW selvagelaw10_HunksTurned.tab16 selvagelaw10_HunksTurned.bits16 (fun HT_ HW_ => ?_)
         generalize wr.drew = w62 at HO_3 HO_8 BK418 HB HL460_5 HL469_5 HL460_5 HL460_5 HR460_5 HR469_5 HR460_5 HR460_5 hx460_0 hx460_1 hx460_2 hx460_3 hx460_4 hx460_5 hx469_0 hx469_1 hx469_2 hx469_3 hx469_4 hx469_5 hx471_0 hx471_1 hx471_2 hx471_3 hx471_4 hx471_5 hx488_0 hx488_1 hx488_2 hx488_3 hx488_4 hx488_5 hHeld ⊢
         refine pureT 0 ?_
         refine pureT 1 ?_
         refine pureT 2 ?_
         refine pureT 5 ?_
         refine pureT 6 ?_
         refine pureT 7 ?_
         refine takeT 3 hHeld ?_
         refine takeT 8 hHeld ?_
         refine one_ (i := 4) (N := some 104) #[true, true, true, true, true, true, true, true, true, false, false, false, false, false, false, false, false, false, false, false, false, false, false, false, false] rfl rfl (one_of HT_.out (by kernel_rfl)) (by decide) (fun K hK => ?_)
         refine goes_ Tryd.func12 (by kernel_rfl) rfl #[.agg #[.int .i64 ((rd_T41 t428 x10_3).f0), .int .i64 ((rd_T41 t428 x10_3).f1), .int .i64 ((rd_T41 t428 x10_3).f2), .int .i64 ((rd_T41 t428 x10_3).f3), .string ((rd_T41 t428 x10_3).f4), .slice A460_5 ((rd_T41 t428 x10_3).f5).length c460_5]] (by rfl) rfl rfl argsOk ?_
         with_reducible refine (hunks_Reverse.calls ((rd_T41 t428 x10_3).f0) ((rd_T41 t428 x10_3).f1) ((rd_T41 t428 x10_3).f2) ((rd_T41 t428 x10_3).f3) ((rd_T41 t428 x10_3).f4) _ _ ((rd_T41 t428 x10_3).f5) t461 t462 t463 t464 t465 t466 _ ?side1 ?side2 A55.out).mono ?_
         (case side1 => repeat (first | exact (by repeat (first | (with_reducible exact HR460_5.out) | (with_reducible refine Kd.C_alloc ?_ _) | (with_reducible refine Kd.C_drewN ?_ _) | (with_reducible refine Kd.C_drew ?_) | exact HR460_5.out)) | (with_reducible refine Kd.C_alloc ?_ _) | (with_reducible refine Kd.C_drewN ?_ _) | (with_reducible refine Kd.C_drew ?_)))
         (case side2 => exact HC460_5.out)
         rintro e w64 ⟨v467, rfl, ho0, hb⟩
         have HS0_ := (hb.cell (World.block_lt_of_cell? _ _ (hHeld.1))).trans (hHeld.1)
         have HS1_ := (hb.cell (World.block_lt_of_cell? _ _ (hHeld.2.1))).trans (hHeld.2.1)
         have HS2_ := (hb.cell (World.block_lt_of_cell? _ _ (hHeld.2.2.1))).trans (hHeld.2.2.1)
         have HS3_ := (hb.cell (World.block_lt_of_cell? _ _ (hHeld.2.2.2.1))).trans (hHeld.2.2.2.1)
         have HS4_ := (hb.cell (World.block_lt_of_cell? _ _ (hHeld.2.2.2.2.1))).trans (hHeld.2.2.2.2.1)
         have HS5_ := (hb.cell (World.block_lt_of_cell? _ _ (hHeld.2.2.2.2.2.1))).trans (hHeld.2.2.2.2.2.1)
         have HS6_ := (hb.cell (World.block_lt_of_cell? _ _ (hHeld.2.2.2.2.2.2.1))).trans (hHeld.2.2.2.2.2.2.1)
         have HS7_ := (hb.cell (World.block_lt_of_cell? _ _ (hHeld.2.2.2.2.2.2.2.1))).trans (hHeld.2.2.2.2.2.2.2.1)
         have HS8_ := (hb.cell (World.block_lt_of_cell? _ _ (hHeld.2.2.2.2.2.2.2.2.1))).trans (hHeld.2.2.2.2.2.2.2.2.1)
         have HS9_ := (hb.cell (World.block_lt_of_cell? _ _ (hHeld.2.2.2.2.2.2.2.2.2.1))).trans (hHeld.2.2.2.2.2.2.2.2.2.1)
         have HS10_ := (hb.cell (World.block_lt_of_cell? _ _ (hHeld.2.2.2.2.2.2.2.2.2.2.1))).trans (hHeld.2.2.2.2.2.2.2.2.2.2.1)
         have HS11_ := (hb.cell (World.block_lt_of_cell? _ _ (hHeld.2.2.2.2.2.2.2.2.2.2.2.1))).trans (hHeld.2.2.2.2.2.2.2.2.2.2.2.1)
         have HS12_ := (hb.cell (World.block_lt_of_cell? _ _ (hHeld.2.2.2.2.2.2.2.2.2.2.2.2.1))).trans (hHeld.2.2.2.2.2.2.2.2.2.2.2.2.1)
         have HS13_ := (hb.cell (World.block_lt_of_cell? _ _ (hHeld.2.2.2.2.2.2.2.2.2.2.2.2.2.1))).trans (hHeld.2.2.2.2.2.2.2.2.2.2.2.2.2.1)
         have HS14_ := (hb.cell (World.block_lt_of_cell? _ _ (hHeld.2.2.2.2.2.2.2.2.2.2.2.2.2.2.1))).trans (hHeld.2.2.2.2.2.2.2.2.2.2.2.2.2.2.1)
         have HS15_ := (hb.cell (World.block_lt_of_cell? _ _ (hHeld.2.2.2.2.2.2.2.2.2.2.2.2.2.2.2.1))).trans (hHeld.2.2.2.2.2.2.2.2.2.2.2.2.2.2.2.1)
         have HS16_ := (hb.cell (World.block_lt_of_cell? _ _ (hHeld.2.2.2.2.2.2.2.2.2.2.2.2.2.2.2.2.1))).trans (hHeld.2.2.2.2.2.2.2.2.2.2.2.2.2.2.2.2.1)
         have HS17_ := (hb.cell (World.block_lt_of_cell? _ _ (hHeld.2.2.2.2.2.2.2.2.2.2.2.2.2.2.2.2.2.1))).trans (hHeld.2.2.2.2.2.2.2.2.2.2.2.2.2.2.2.2.2.1)
         have HS18_ := (hb.cell (World.block_lt_of_cell? _ _ (hHeld.2.2.2.2.2.2.2.2.2.2.2.2.2.2.2.2.2.2.1))).trans (hHeld.2.2.2.2.2.2.2.2.2.2.2.2.2.2.2.2.2.2.1)
         have HS19_ := (hb.cell (World.block_lt_of_cell? _ _ (hHeld.2.2.2.2.2.2.2.2.2.2.2.2.2.2.2.2.2.2.2.1))).trans (hHeld.2.2.2.2.2.2.2.2.2.2.2.2.2.2.2.2.2.2.2.1)
         have HS20_ := (hb.cell (World.block_lt_of_cell? _ _ (hHeld.2.2.2.2.2.2.2.2.2.2.2.2.2.2.2.2.2.2.2.2.1))).trans (hHeld.2.2.2.2.2.2.2.2.2.2.2.2.2.2.2.2.2.2.2.2.1)
         have HS21_ := (hb.cell (World.block_lt_of_cell? _ _ (hHeld.2.2.2.2.2.2.2.2.2.2.2.2.2.2.2.2.2.2.2.2.2.1))).trans (hHeld.2.2.2.2.2.2.2.2.2.2.2.2.2.2.2.2.2.2.2.2.2.1)
         have HS22_ := (hb.cell (World.block_lt_of_cell? _ _ (hHeld.2.2.2.2.2.2.2.2.2.2.2.2.2.2.2.2.2.2.2.2.2.2.1))).trans (hHeld.2.2.2.2.2.2.2.2.2.2.2.2.2.2.2.2.2.2.2.2.2.2.1)
         have HS23_ := (hb.cell (World.block_lt_of_cell? _ _ (hHeld.2.2.2.2.2.2.2.2.2.2.2.2.2.2.2.2.2.2.2.2.2.2.2))).trans (hHeld.2.2.2.2.2.2.2.2.2.2.2.2.2.2.2.2.2.2.2.2.2.2.2)
         refine ⟨_, rfl, ?_⟩
         replace HO_3 := Aside0.mk (Kd.S_elder' (by (with_reducible repeat (first | apply Kd.S_alloc | apply Kd.S_drewN | apply Kd.S_drew)); exact HO_3.out) (Kd.R_base ho0) hb)
         replace HO_8 := Aside0.mk (Kd.S_elder' (by (with_reducible repeat (first | apply Kd.S_alloc | apply Kd.S_drewN | apply Kd.S_drew)); exact HO_8.out) (Kd.R_base ho0) hb)
         have HO468 := Aside0.mk (Kd.R_lower (Kd.R_new' (Kd.R_new' ho0 (Kd.R_lt (by (with_reducible repeat (first | apply Kd.R_alloc | apply Kd.R_drewN | apply Kd.R_drew)); exact HL460_5.out))) (Kd.R_lt (by (with_reducible repeat (first | apply Kd.R_alloc | apply Kd.R_drewN | apply Kd.R_drew)); exact HL469_5.out))) (below_size (belPut)))
         replace HL460_5 := Aside0.mk (Kd.R_elder' (by (with_reducible repeat (first | apply Kd.R_alloc | apply Kd.R_drewN | apply Kd.R_drew)); exact HL460_5.out) (Kd.R_base ho0) hb)
         replace HL469_5 := Aside0.mk (Kd.R_elder' (by (with_reducible repeat (first | apply Kd.R_alloc | apply Kd.R_drewN | apply Kd.R_drew)); exact HL469_5.out) (Kd.R_base ho0) hb)
         replace BK418 := bkD BK418 hb
         replace HR460_5 := Aside0.mk (Kd.C_below (by repeat (first | (with_reducible exact HR460_5.out) | (with_reducible refine Kd.C_alloc ?_ _) | (with_reducible refine Kd.C_drewN ?_ _) | (with_reducible refine Kd.C_drew ?_) | exact HR460_5.out)) hb)
         replace HR469_5 := Aside0.mk (Kd.C_below (by repeat (first | (with_reducible exact HR469_5.out) | (with_reducible refine Kd.C_alloc ?_ _) | (with_reducible refine Kd.C_drewN ?_ _) | (with_reducible refine Kd.C_drew ?_) | exact HR469_5.out)) hb)
         replace HB := hbD HB hb
         (try clear hb)
         (try clear hb2)
         (try clear hk)
         (try clear hi)
         (try clear ho0)
         obtain ⟨Ao65, co65, eo65⟩ := Kd.R_slice HO468.out
         (first | subst eo65 | (injection eo65 with f1_ f2_ f3_; have f4_ := f1_.symm; have f5_ := f3_.symm; clear f1_ f2_ f3_; subst f4_; subst f5_))
         refine hK.out _ _ ⟨HS0_, HS1_, HS2_, HS3_, HS4_, HS5_, HS6_, HS7_, HS8_, HS9_, HS10_, HS11_, HS12_, HS13_, HS14_, HS15_, HS16_, HS17_, HS18_, HS19_, HS20_, HS21_, HS22_, HS23_⟩ (fun hHeld => ?_)
         clear hK K
         refine norm_ (a' := ?_) ?_ ?_
         rotate_left
         ·show Act.put _ (some 104) _ = _
          simp only [Act.put, List.setIfInBounds_toArray, List.set_cons_zero, List.set_cons_succ, i64_w, i32_w]
          rfl
         refine one_ (i := 9) (N := some 109) #[true, true, true, true, true, true, true, true, true, true, false, false, false, false, false, false, false, false, false, false, false, false, false, false, false] rfl rfl (one_of HT_.out (by kernel_rfl)) (by decide) (fun K hK => ?_)
         refine goes_ Tryd.func11 (by kernel_rfl) rfl #[.agg #[.int .i64 t461, .int .i64 t462, .int .i64 t463, .int .i64 t464, .string t465, .slice Ao65 t466.length co65], .agg #[.int .i64 ((rd_T41 t454 x10_3).f0), .int .i64 ((rd_T41 t454 x10_3).f1), .int .i64 ((rd_T41 t454 x10_3).f2), .int .i64 ((rd_T41 t454 x10_3).f3), .string ((rd_T41 t454 x10_3).f4), .slice A469_5 ((rd_T41 t454 x10_3).f5).length c469_5]] (by rfl) rfl rfl argsOk ?_
         with_reducible refine (selvagelaw10_same.calls k3 t461 t462 t463 t464 t465 _ _ t466 ((rd_T41 t454 x10_3).f0) ((rd_T41 t454 x10_3).f1) ((rd_T41 t454 x10_3).f2) ((rd_T41 t454 x10_3).f3) ((rd_T41 t454 x10_3).f4) _ _ ((rd_T41 t454 x10_3).f5) true _ ?side1 ?side2 ?side3 ?side4 A57.out).mono ?_
         (case side1 => repeat (first | exact (Kd.R_reads' HO468.out).2.2 | (with_reducible refine Kd.C_alloc ?_ _) | (with_reducible refine Kd.C_drewN ?_ _) | (with_reducible refine Kd.C_drew ?_)))
         (case side2 => exact (Kd.R_reads' HO468.out).2.1)
         (case side3 => repeat (first | exact (by repeat (first | (with_reducible exact HR469_5.out) | (with_reducible refine Kd.C_alloc ?_ _) | (with_reducible refine Kd.C_drewN ?_ _) | (with_reducible refine Kd.C_drew ?_) | exact HR469_5.out)) | (with_reducible refine Kd.C_alloc ?_ _) | (with_reducible refine Kd.C_drewN ?_ _) | (with_reducible refine Kd.C_drew ?_)))
         (case side4 => exact HC469_5.out)
         rintro e w66 ⟨rfl, hb⟩
         have HS0_ := (hb.cell (World.block_lt_of_cell? _ _ (hHeld.1))).trans (hHeld.1)
         have HS1_ := (hb.cell (World.block_lt_of_cell? _ _ (hHeld.2.1))).trans (hHeld.2.1)
         have HS2_ := (hb.cell (World.block_lt_of_cell? _ _ (hHeld.2.2.1))).trans (hHeld.2.2.1)
         have HS3_ := (hb.cell (World.block_lt_of_cell? _ _ (hHeld.2.2.2.1))).trans (hHeld.2.2.2.1)
         have HS4_ := (hb.cell (World.block_lt_of_cell? _ _ (hHeld.2.2.2.2.1))).trans (hHeld.2.2.2.2.1)
         have HS5_ := (hb.cell (World.block_lt_of_cell? _ _ (hHeld.2.2.2.2.2.1))).trans (hHeld.2.2.2.2.2.1)
         have HS6_ := (hb.cell (World.block_lt_of_cell? _ _ (hHeld.2.2.2.2.2.2.1))).trans (hHeld.2.2.2.2.2.2.1)
         have HS7_ := (hb.cell (World.block_lt_of_cell? _ _ (hHeld.2.2.2.2.2.2.2.1))).trans (hHeld.2.2.2.2.2.2.2.1)
         have HS8_ := (hb.cell (World.block_lt_of_cell? _ _ (hHeld.2.2.2.2.2.2.2.2.1))).trans (hHeld.2.2.2.2.2.2.2.2.1)
         have HS9_ := (hb.cell (World.block_lt_of_cell? _ _ (hHeld.2.2.2.2.2.2.2.2.2.1))).trans (hHeld.2.2.2.2.2.2.2.2.2.1)
         have HS10_ := (hb.cell (World.block_lt_of_cell? _ _ (hHeld.2.2.2.2.2.2.2.2.2.2.1))).trans (hHeld.2.2.2.2.2.2.2.2.2.2.1)
         have HS11_ := (hb.cell (World.block_lt_of_cell? _ _ (hHeld.2.2.2.2.2.2.2.2.2.2.2.1))).trans (hHeld.2.2.2.2.2.2.2.2.2.2.2.1)
         have HS12_ := (hb.cell (World.block_lt_of_cell? _ _ (hHeld.2.2.2.2.2.2.2.2.2.2.2.2.1))).trans (hHeld.2.2.2.2.2.2.2.2.2.2.2.2.1)
         have HS13_ := (hb.cell (World.block_lt_of_cell? _ _ (hHeld.2.2.2.2.2.2.2.2.2.2.2.2.2.1))).trans (hHeld.2.2.2.2.2.2.2.2.2.2.2.2.2.1)
         have HS14_ := (hb.cell (World.block_lt_of_cell? _ _ (hHeld.2.2.2.2.2.2.2.2.2.2.2.2.2.2.1))).trans (hHeld.2.2.2.2.2.2.2.2.2.2.2.2.2.2.1)
         have HS15_ := (hb.cell (World.block_lt_of_cell? _ _ (hHeld.2.2.2.2.2.2.2.2.2.2.2.2.2.2.2.1))).trans (hHeld.2.2.2.2.2.2.2.2.2.2.2.2.2.2.2.1)
         have HS16_ := (hb.cell (World.block_lt_of_cell? _ _ (hHeld.2.2.2.2.2.2.2.2.2.2.2.2.2.2.2.2.1))).trans (hHeld.2.2.2.2.2.2.2.2.2.2.2.2.2.2.2.2.1)
         have HS17_ := (hb.cell (World.block_lt_of_cell? _ _ (hHeld.2.2.2.2.2.2.2.2.2.2.2.2.2.2.2.2.2.1))).trans (hHeld.2.2.2.2.2.2.2.2.2.2.2.2.2.2.2.2.2.1)
         have HS18_ := (hb.cell (World.block_lt_of_cell? _ _ (hHeld.2.2.2.2.2.2.2.2.2.2.2.2.2.2.2.2.2.2.1))).trans (hHeld.2.2.2.2.2.2.2.2.2.2.2.2.2.2.2.2.2.2.1)
         have HS19_ := (hb.cell (World.block_lt_of_cell? _ _ (hHeld.2.2.2.2.2.2.2.2.2.2.2.2.2.2.2.2.2.2.2.1))).trans (hHeld.2.2.2.2.2.2.2.2.2.2.2.2.2.2.2.2.2.2.2.1)
         have HS20_ := (hb.cell (World.block_lt_of_cell? _ _ (hHeld.2.2.2.2.2.2.2.2.2.2.2.2.2.2.2.2.2.2.2.2.1))).trans (hHeld.2.2.2.2.2.2.2.2.2.2.2.2.2.2.2.2.2.2.2.2.1)
         have HS21_ := (hb.cell (World.block_lt_of_cell? _ _ (hHeld.2.2.2.2.2.2.2.2.2.2.2.2.2.2.2.2.2.2.2.2.2.1))).trans (hHeld.2.2.2.2.2.2.2.2.2.2.2.2.2.2.2.2.2.2.2.2.2.1)
         have HS22_ := (hb.cell (World.block_lt_of_cell? _ _ (hHeld.2.2.2.2.2.2.2.2.2.2.2.2.2.2.2.2.2.2.2.2.2.2.1))).trans (hHeld.2.2.2.2.2.2.2.2.2.2.2.2.2.2.2.2.2.2.2.2.2.2.1)
         have HS23_ := (hb.cell (World.block_lt_of_cell? _ _ (hHeld.2.2.2.2.2.2.2.2.2.2.2.2.2.2.2.2.2.2.2.2.2.2.2))).trans (hHeld.2.2.2.2.2.2.2.2.2.2.2.2.2.2.2.2.2.2.2.2.2.2.2)
         refine ⟨_, rfl, ?_⟩
         replace HO_3 := Aside0.mk (Kd.S_below (by (with_reducible repeat (first | apply Kd.S_alloc | apply Kd.S_drewN | apply Kd.S_drew)); exact HO_3.out) hb)
         replace HO_8 := Aside0.mk (Kd.S_below (by (with_reducible repeat (first | apply Kd.S_alloc | apply Kd.S_drewN | apply Kd.S_drew)); exact HO_8.out) hb)
         replace HL460_5 := Aside0.mk (Kd.R_below (by (with_reducible repeat (first | apply Kd.R_alloc | apply Kd.R_drewN | apply Kd.R_drew)); exact HL460_5.out) hb)
         replace HL469_5 := Aside0.mk (Kd.R_below (by (with_reducible repeat (first | apply Kd.R_alloc | apply Kd.R_drewN | apply Kd.R_drew)); exact HL469_5.out) hb)
         replace HO468 := Aside0.mk (Kd.R_below (kdUp HO468.out) hb)
         replace BK418 := bkD BK418 hb
         replace HR460_5 := Aside0.mk (Kd.C_below (by repeat (first | (with_reducible exact HR460_5.out) | (with_reducible refine Kd.C_alloc ?_ _) | (with_reducible refine Kd.C_drewN ?_ _) | (with_reducible refine Kd.C_drew ?_) | exact HR460_5.out)) hb)
         replace HR469_5 := Aside0.mk (Kd.C_below (by repeat (first | (with_reducible exact HR469_5.out) | (with_reducible refine Kd.C_alloc ?_ _) | (with_reducible refine Kd.C_drewN ?_ _) | (with_reducible refine Kd.C_drew ?_) | exact HR469_5.out)) hb)
         replace HB := hbD HB hb
         (try clear hb)
         (try clear hb2)
         (try clear hk)
         (try clear hi)
         refine hK.out _ _ ⟨HS0_, HS1_, HS2_, HS3_, HS4_, HS5_, HS6_, HS7_, HS8_, HS9_, HS10_, HS11_, HS12_, HS13_, HS14_, HS15_, HS16_, HS17_, HS18_, HS19_, HS20_, HS21_, HS22_, HS23_⟩ (fun hHeld => ?_)
         clear hK K
         refine norm_ (a' := ?_) ?_ ?_
         rotate_left
         ·show Act.put _ (some 109) _ = _
          simp only [Act.put, List.setIfInBounds_toArray, List.set_cons_zero, List.set_cons_succ, i64_w, i32_w]
          rfl
         refine pureT 10 ?_
         refine pureT 11 ?_
         refine pureT 12 ?_
         refine pureT 13 ?_
         refine pureT 14 ?_
         refine pureT 18 ?_
         refine pureT 19 ?_
         refine pureT 20 ?_
         refine takeT 15 hHeld ?_
         refine takeT 21 hHeld ?_
         refine one_ (i := 16) (N := some 116) #[true, true, true, true, true, true, true, true, true, true, true, true, true, true, true, true, true, false, true, true, true, true, false, false, false] rfl rfl (one_of HT_.out (by kernel_rfl)) (by decide) (fun K hK => ?_)
         refine goes_ Tryd.func12 (by kernel_rfl) rfl #[.agg #[.int .i64 ((rd_T41 t428 x10_3).f0), .int .i64 ((rd_T41 t428 x10_3).f1), .int .i64 ((rd_T41 t428 x10_3).f2), .int .i64 ((rd_T41 t428 x10_3).f3), .string ((rd_T41 t428 x10_3).f4), .slice A460_5 ((rd_T41 t428 x10_3).f5).length c460_5]] (by rfl) rfl rfl argsOk ?_
         with_reducible refine (hunks_Reverse.calls ((rd_T41 t428 x10_3).f0) ((rd_T41 t428 x10_3).f1) ((rd_T41 t428 x10_3).f2) ((rd_T41 t428 x10_3).f3) ((rd_T41 t428 x10_3).f4) _ _ ((rd_T41 t428 x10_3).f5) t472 t473 t474 t475 t476 t477 _ ?side1 ?side2 A59.out).mono ?_
         (case side1 => repeat (first | exact (by repeat (first | (with_reducible exact HR460_5.out) | (with_reducible refine Kd.C_alloc ?_ _) | (with_reducible refine Kd.C_drewN ?_ _) | (with_reducible refine Kd.C_drew ?_) | exact HR460_5.out)) | (with_reducible refine Kd.C_alloc ?_ _) | (with_reducible refine Kd.C_drewN ?_ _) | (with_reducible refine Kd.C_drew ?_)))
         (case side2 => exact HC460_5.out)
         rintro e w67 ⟨v478, rfl, ho0, hb⟩
         have HS0_ := (hb.cell (World.block_lt_of_cell? _ _ (hHeld.1))).trans (hHeld.1)
         have HS1_ := (hb.cell (World.block_lt_of_cell? _ _ (hHeld.2.1))).trans (hHeld.2.1)
         have HS2_ := (hb.cell (World.block_lt_of_cell? _ _ (hHeld.2.2.1))).trans (hHeld.2.2.1)
         have HS3_ := (hb.cell (World.block_lt_of_cell? _ _ (hHeld.2.2.2.1))).trans (hHeld.2.2.2.1)
         have HS4_ := (hb.cell (World.block_lt_of_cell? _ _ (hHeld.2.2.2.2.1))).trans (hHeld.2.2.2.2.1)
         have HS5_ := (hb.cell (World.block_lt_of_cell? _ _ (hHeld.2.2.2.2.2.1))).trans (hHeld.2.2.2.2.2.1)
         have HS6_ := (hb.cell (World.block_lt_of_cell? _ _ (hHeld.2.2.2.2.2.2.1))).trans (hHeld.2.2.2.2.2.2.1)
         have HS7_ := (hb.cell (World.block_lt_of_cell? _ _ (hHeld.2.2.2.2.2.2.2.1))).trans (hHeld.2.2.2.2.2.2.2.1)
         have HS8_ := (hb.cell (World.block_lt_of_cell? _ _ (hHeld.2.2.2.2.2.2.2.2.1))).trans (hHeld.2.2.2.2.2.2.2.2.1)
         have HS9_ := (hb.cell (World.block_lt_of_cell? _ _ (hHeld.2.2.2.2.2.2.2.2.2.1))).trans (hHeld.2.2.2.2.2.2.2.2.2.1)
         have HS10_ := (hb.cell (World.block_lt_of_cell? _ _ (hHeld.2.2.2.2.2.2.2.2.2.2.1))).trans (hHeld.2.2.2.2.2.2.2.2.2.2.1)
         have HS11_ := (hb.cell (World.block_lt_of_cell? _ _ (hHeld.2.2.2.2.2.2.2.2.2.2.2.1))).trans (hHeld.2.2.2.2.2.2.2.2.2.2.2.1)
         have HS12_ := (hb.cell (World.block_lt_of_cell? _ _ (hHeld.2.2.2.2.2.2.2.2.2.2.2.2.1))).trans (hHeld.2.2.2.2.2.2.2.2.2.2.2.2.1)
         have HS13_ := (hb.cell (World.block_lt_of_cell? _ _ (hHeld.2.2.2.2.2.2.2.2.2.2.2.2.2.1))).trans (hHeld.2.2.2.2.2.2.2.2.2.2.2.2.2.1)
         have HS14_ := (hb.cell (World.block_lt_of_cell? _ _ (hHeld.2.2.2.2.2.2.2.2.2.2.2.2.2.2.1))).trans (hHeld.2.2.2.2.2.2.2.2.2.2.2.2.2.2.1)
         have HS15_ := (hb.cell (World.block_lt_of_cell? _ _ (hHeld.2.2.2.2.2.2.2.2.2.2.2.2.2.2.2.1))).trans (hHeld.2.2.2.2.2.2.2.2.2.2.2.2.2.2.2.1)
         have HS16_ := (hb.cell (World.block_lt_of_cell? _ _ (hHeld.2.2.2.2.2.2.2.2.2.2.2.2.2.2.2.2.1))).trans (hHeld.2.2.2.2.2.2.2.2.2.2.2.2.2.2.2.2.1)
         have HS17_ := (hb.cell (World.block_lt_of_cell? _ _ (hHeld.2.2.2.2.2.2.2.2.2.2.2.2.2.2.2.2.2.1))).trans (hHeld.2.2.2.2.2.2.2.2.2.2.2.2.2.2.2.2.2.1)
         have HS18_ := (hb.cell (World.block_lt_of_cell? _ _ (hHeld.2.2.2.2.2.2.2.2.2.2.2.2.2.2.2.2.2.2.1))).trans (hHeld.2.2.2.2.2.2.2.2.2.2.2.2.2.2.2.2.2.2.1)
         have HS19_ := (hb.cell (World.block_lt_of_cell? _ _ (hHeld.2.2.2.2.2.2.2.2.2.2.2.2.2.2.2.2.2.2.2.1))).trans (hHeld.2.2.2.2.2.2.2.2.2.2.2.2.2.2.2.2.2.2.2.1)
         have HS20_ := (hb.cell (World.block_lt_of_cell? _ _ (hHeld.2.2.2.2.2.2.2.2.2.2.2.2.2.2.2.2.2.2.2.2.1))).trans (hHeld.2.2.2.2.2.2.2.2.2.2.2.2.2.2.2.2.2.2.2.2.1)
         have HS21_ := (hb.cell (World.block_lt_of_cell? _ _ (hHeld.2.2.2.2.2.2.2.2.2.2.2.2.2.2.2.2.2.2.2.2.2.1))).trans (hHeld.2.2.2.2.2.2.2.2.2.2.2.2.2.2.2.2.2.2.2.2.2.1)
         have HS22_ := (hb.cell (World.block_lt_of_cell? _ _ (hHeld.2.2.2.2.2.2.2.2.2.2.2.2.2.2.2.2.2.2.2.2.2.2.1))).trans (hHeld.2.2.2.2.2.2.2.2.2.2.2.2.2.2.2.2.2.2.2.2.2.2.1)
         have HS23_ := (hb.cell (World.block_lt_of_cell? _ _ (hHeld.2.2.2.2.2.2.2.2.2.2.2.2.2.2.2.2.2.2.2.2.2.2.2))).trans (hHeld.2.2.2.2.2.2.2.2.2.2.2.2.2.2.2.2.2.2.2.2.2.2.2)
         refine ⟨_, rfl, ?_⟩
         replace HO_3 := Aside0.mk (Kd.S_elder' (by (with_reducible repeat (first | apply Kd.S_alloc | apply Kd.S_drewN | apply Kd.S_drew)); exact HO_3.out) (Kd.R_base ho0) hb)
         replace HO_8 := Aside0.mk (Kd.S_elder' (by (with_reducible repeat (first | apply Kd.S_alloc | apply Kd.S_drewN | apply Kd.S_drew)); exact HO_8.out) (Kd.R_base ho0) hb)
         have HO479 := Aside0.mk (Kd.R_lower (Kd.R_new' (Kd.R_new' (Kd.R_new' (Kd.R_new' ho0 (Kd.R_lt (by (with_reducible repeat (first | apply Kd.R_alloc | apply Kd.R_drewN | apply Kd.R_drew)); exact HL460_5.out))) (Kd.R_lt (by (with_reducible repeat (first | apply Kd.R_alloc | apply Kd.R_drewN | apply Kd.R_drew)); exact HL469_5.out))) (Kd.R_lt (kdUp HO468.out))) (Kd.R_lt (by (with_reducible repeat (first | apply Kd.R_alloc | apply Kd.R_drewN | apply Kd.R_drew)); exact HL460_5.out))) (below_size (belPut)))
         replace HL460_5 := Aside0.mk (Kd.R_elder' (by (with_reducible repeat (first | apply Kd.R_alloc | apply Kd.R_drewN | apply Kd.R_drew)); exact HL460_5.out) (Kd.R_base ho0) hb)
         replace HL469_5 := Aside0.mk (Kd.R_elder' (by (with_reducible repeat (first | apply Kd.R_alloc | apply Kd.R_drewN | apply Kd.R_drew)); exact HL469_5.out) (Kd.R_base ho0) hb)
         replace HO468 := Aside0.mk (Kd.R_elder' (kdUp HO468.out) (Kd.R_base ho0) hb)
         replace BK418 := bkD BK418 hb
         replace HR460_5 := Aside0.mk (Kd.C_below (by repeat (first | (with_reducible exact HR460_5.out) | (with_reducible refine Kd.C_alloc ?_ _) | (with_reducible refine Kd.C_drewN ?_ _) | (with_reducible refine Kd.C_drew ?_) | exact HR460_5.out)) hb)
         replace HR469_5 := Aside0.mk (Kd.C_below (by repeat (first | (with_reducible exact HR469_5.out) | (with_reducible refine Kd.C_alloc ?_ _) | (with_reducible refine Kd.C_drewN ?_ _) | (with_reducible refine Kd.C_drew ?_) | exact HR469_5.out)) hb)
         replace HB := hbD HB hb
         (try clear hb)
         (try clear hb2)
         (try clear hk)
         (try clear hi)
         (try clear ho0)
         obtain ⟨Ao68, co68, eo68⟩ := Kd.R_slice HO479.out
         (first | subst eo68 | (injection eo68 with f1_ f2_ f3_; have f4_ := f1_.symm; have f5_ := f3_.symm; clear f1_ f2_ f3_; subst f4_; subst f5_))
         refine hK.out _ _ ⟨HS0_, HS1_, HS2_, HS3_, HS4_, HS5_, HS6_, HS7_, HS8_, HS9_, HS10_, HS11_, HS12_, HS13_, HS14_, HS15_, HS16_, HS17_, HS18_, HS19_, HS20_, HS21_, HS22_, HS23_⟩ (fun hHeld => ?_)
         clear hK K
         refine norm_ (a' := ?_) ?_ ?_
         rotate_left
         ·show Act.put _ (some 116) _ = _
          simp only [Act.put, List.setIfInBounds_toArray, List.set_cons_zero, List.set_cons_succ, i64_w, i32_w]
          rfl
         refine one_ (i := 17) (N := some 117) #[true, true, true, true, true, true, true, true, true, true, true, true, true, true, true, true, true, true, true, true, true, true, false, false, false] rfl rfl (one_of HT_.out (by kernel_rfl)) (by decide) (fun K hK => ?_)
         refine goes_ Tryd.func12 (by kernel_rfl) rfl #[.agg #[.int .i64 t472, .int .i64 t473, .int .i64 t474, .int .i64 t475, .string t476, .slice Ao68 t477.length co68]] (by rfl) rfl rfl argsOk ?_
         with_reducible refine (hunks_Reverse.calls t472 t473 t474 t475 t476 _ _ t477 t480 t481 t482 t483 t484 t485 _ ?side1 ?side2 A60.out).mono ?_
         (case side1 => repeat (first | exact (Kd.R_reads' HO479.out).2.2 | (with_reducible refine Kd.C_alloc ?_ _) | (with_reducible refine Kd.C_drewN ?_ _) | (with_reducible refine Kd.C_drew ?_)))
         (case side2 => exact (Kd.R_reads' HO479.out).2.1)
         rintro e w69 ⟨v486, rfl, ho0, hb⟩
         have HS0_ := (hb.cell (World.block_lt_of_cell? _ _ (hHeld.1))).trans (hHeld.1)
         have HS1_ := (hb.cell (World.block_lt_of_cell? _ _ (hHeld.2.1))).trans (hHeld.2.1)
         have HS2_ := (hb.cell (World.block_lt_of_cell? _ _ (hHeld.2.2.1))).trans (hHeld.2.2.1)
         have HS3_ := (hb.cell (World.block_lt_of_cell? _ _ (hHeld.2.2.2.1))).trans (hHeld.2.2.2.1)
         have HS4_ := (hb.cell (World.block_lt_of_cell? _ _ (hHeld.2.2.2.2.1))).trans (hHeld.2.2.2.2.1)
         have HS5_ := (hb.cell (World.block_lt_of_cell? _ _ (hHeld.2.2.2.2.2.1))).trans (hHeld.2.2.2.2.2.1)
         have HS6_ := (hb.cell (World.block_lt_of_cell? _ _ (hHeld.2.2.2.2.2.2.1))).trans (hHeld.2.2.2.2.2.2.1)
         have HS7_ := (hb.cell (World.block_lt_of_cell? _ _ (hHeld.2.2.2.2.2.2.2.1))).trans (hHeld.2.2.2.2.2.2.2.1)
         have HS8_ := (hb.cell (World.block_lt_of_cell? _ _ (hHeld.2.2.2.2.2.2.2.2.1))).trans (hHeld.2.2.2.2.2.2.2.2.1)
         have HS9_ := (hb.cell (World.block_lt_of_cell? _ _ (hHeld.2.2.2.2.2.2.2.2.2.1))).trans (hHeld.2.2.2.2.2.2.2.2.2.1)
         have HS10_ := (hb.cell (World.block_lt_of_cell? _ _ (hHeld.2.2.2.2.2.2.2.2.2.2.1))).trans (hHeld.2.2.2.2.2.2.2.2.2.2.1)
         have HS11_ := (hb.cell (World.block_lt_of_cell? _ _ (hHeld.2.2.2.2.2.2.2.2.2.2.2.1))).trans (hHeld.2.2.2.2.2.2.2.2.2.2.2.1)
         have HS12_ := (hb.cell (World.block_lt_of_cell? _ _ (hHeld.2.2.2.2.2.2.2.2.2.2.2.2.1))).trans (hHeld.2.2.2.2.2.2.2.2.2.2.2.2.1)
         have HS13_ := (hb.cell (World.block_lt_of_cell? _ _ (hHeld.2.2.2.2.2.2.2.2.2.2.2.2.2.1))).trans (hHeld.2.2.2.2.2.2.2.2.2.2.2.2.2.1)
         have HS14_ := (hb.cell (World.block_lt_of_cell? _ _ (hHeld.2.2.2.2.2.2.2.2.2.2.2.2.2.2.1))).trans (hHeld.2.2.2.2.2.2.2.2.2.2.2.2.2.2.1)
         have HS15_ := (hb.cell (World.block_lt_of_cell? _ _ (hHeld.2.2.2.2.2.2.2.2.2.2.2.2.2.2.2.1))).trans (hHeld.2.2.2.2.2.2.2.2.2.2.2.2.2.2.2.1)
         have HS16_ := (hb.cell (World.block_lt_of_cell? _ _ (hHeld.2.2.2.2.2.2.2.2.2.2.2.2.2.2.2.2.1))).trans (hHeld.2.2.2.2.2.2.2.2.2.2.2.2.2.2.2.2.1)
         have HS17_ := (hb.cell (World.block_lt_of_cell? _ _ (hHeld.2.2.2.2.2.2.2.2.2.2.2.2.2.2.2.2.2.1))).trans (hHeld.2.2.2.2.2.2.2.2.2.2.2.2.2.2.2.2.2.1)
         have HS18_ := (hb.cell (World.block_lt_of_cell? _ _ (hHeld.2.2.2.2.2.2.2.2.2.2.2.2.2.2.2.2.2.2.1))).trans (hHeld.2.2.2.2.2.2.2.2.2.2.2.2.2.2.2.2.2.2.1)
         have HS19_ := (hb.cell (World.block_lt_of_cell? _ _ (hHeld.2.2.2.2.2.2.2.2.2.2.2.2.2.2.2.2.2.2.2.1))).trans (hHeld.2.2.2.2.2.2.2.2.2.2.2.2.2.2.2.2.2.2.2.1)
         have HS20_ := (hb.cell (World.block_lt_of_cell? _ _ (hHeld.2.2.2.2.2.2.2.2.2.2.2.2.2.2.2.2.2.2.2.2.1))).trans (hHeld.2.2.2.2.2.2.2.2.2.2.2.2.2.2.2.2.2.2.2.2.1)
         have HS21_ := (hb.cell (World.block_lt_of_cell? _ _ (hHeld.2.2.2.2.2.2.2.2.2.2.2.2.2.2.2.2.2.2.2.2.2.1))).trans (hHeld.2.2.2.2.2.2.2.2.2.2.2.2.2.2.2.2.2.2.2.2.2.1)
         have HS22_ := (hb.cell (World.block_lt_of_cell? _ _ (hHeld.2.2.2.2.2.2.2.2.2.2.2.2.2.2.2.2.2.2.2.2.2.2.1))).trans (hHeld.2.2.2.2.2.2.2.2.2.2.2.2.2.2.2.2.2.2.2.2.2.2.1)
         have HS23_ := (hb.cell (World.block_lt_of_cell? _ _ (hHeld.2.2.2.2.2.2.2.2.2.2.2.2.2.2.2.2.2.2.2.2.2.2.2))).trans (hHeld.2.2.2.2.2.2.2.2.2.2.2.2.2.2.2.2.2.2.2.2.2.2.2)
         refine ⟨_, rfl, ?_⟩
         replace HO_3 := Aside0.mk (Kd.S_elder' (by (with_reducible repeat (first | apply Kd.S_alloc | apply Kd.S_drewN | apply Kd.S_drew)); exact HO_3.out) (Kd.R_base ho0) hb)
         replace HO_8 := Aside0.mk (Kd.S_elder' (by (with_reducible repeat (first | apply Kd.S_alloc | apply Kd.S_drewN | apply Kd.S_drew)); exact HO_8.out) (Kd.R_base ho0) hb)
         have HO487 := Aside0.mk (Kd.R_lower (Kd.R_new' (Kd.R_new' (Kd.R_new' (Kd.R_new' (Kd.R_new' ho0 (Kd.R_lt (by (with_reducible repeat (first | apply Kd.R_alloc | apply Kd.R_drewN | apply Kd.R_drew)); exact HL460_5.out))) (Kd.R_lt (by (with_reducible repeat (first | apply Kd.R_alloc | apply Kd.R_drewN | apply Kd.R_drew)); exact HL469_5.out))) (Kd.R_lt (kdUp HO468.out))) (Kd.R_lt (by (with_reducible repeat (first | apply Kd.R_alloc | apply Kd.R_drewN | apply Kd.R_drew)); exact HL460_5.out))) (Kd.R_lt (kdUp HO479.out))) (below_size (belPut)))
         replace HL460_5 := Aside0.mk (Kd.R_elder' (by (with_reducible repeat (first | apply Kd.R_alloc | apply Kd.R_drewN | apply Kd.R_drew)); exact HL460_5.out) (Kd.R_base ho0) hb)
         replace HL469_5 := Aside0.mk (Kd.R_elder' (by (with_reducible repeat (first | apply Kd.R_alloc | apply Kd.R_drewN | apply Kd.R_drew)); exact HL469_5.out) (Kd.R_base ho0) hb)
         replace HO468 := Aside0.mk (Kd.R_elder' (kdUp HO468.out) (Kd.R_base ho0) hb)
         replace HO479 := Aside0.mk (Kd.R_elder' (kdUp HO479.out) (Kd.R_base ho0) hb)
         replace BK418 := bkD BK418 hb
         replace HR460_5 := Aside0.mk (Kd.C_below (by repeat (first | (with_reducible exact HR460_5.out) | (with_reducible refine Kd.C_alloc ?_ _) | (with_reducible refine Kd.C_drewN ?_ _) | (with_reducible refine Kd.C_drew ?_) | exact HR460_5.out)) hb)
         replace HR469_5 := Aside0.mk (Kd.C_below (by repeat (first | (with_reducible exact HR469_5.out) | (with_reducible refine Kd.C_alloc ?_ _) | (with_reducible refine Kd.C_drewN ?_ _) | (with_reducible refine Kd.C_drew ?_) | exact HR469_5.out)) hb)
         replace HB := hbD HB hb
         (try clear hb)
         (try clear hb2)
         (try clear hk)
         (try clear hi)
         (try clear ho0)
         obtain ⟨Ao70, co70, eo70⟩ := Kd.R_slice HO487.out
         (first | subst eo70 | (injection eo70 with f1_ f2_ f3_; have f4_ := f1_.symm; have f5_ := f3_.symm; clear f1_ f2_ f3_; subst f4_; subst f5_))
         refine hK.out _ _ ⟨HS0_, HS1_, HS2_, HS3_, HS4_, HS5_, HS6_, HS7_, HS8_, HS9_, HS10_, HS11_, HS12_, HS13_, HS14_, HS15_, HS16_, HS17_, HS18_, HS19_, HS20_, HS21_, HS22_, HS23_⟩ (fun hHeld => ?_)
         clear hK K
         refine norm_ (a' := ?_) ?_ ?_
         rotate_left
         ·show Act.put _ (some 117) _ = _
          simp only [Act.put, List.setIfInBounds_toArray, List.set_cons_zero, List.set_cons_succ, i64_w, i32_w]
          rfl
         refine one_ (i := 22) (N := some 122) #[true, true, true, true, true, true, true, true, true, true, true, true, true, true, true, true, true, true, true, true, true, true, true, false, false] rfl rfl (one_of HT_.out (by kernel_rfl)) (by decide) (fun K hK => ?_)
         refine goes_ Tryd.func11 (by kernel_rfl) rfl #[.agg #[.int .i64 t480, .int .i64 t481, .int .i64 t482, .int .i64 t483, .string t484, .slice Ao70 t485.length co70], .agg #[.int .i64 ((rd_T41 t428 x10_3).f0), .int .i64 ((rd_T41 t428 x10_3).f1), .int .i64 ((rd_T41 t428 x10_3).f2), .int .i64 ((rd_T41 t428 x10_3).f3), .string ((rd_T41 t428 x10_3).f4), .slice A460_5 ((rd_T41 t428 x10_3).f5).length c460_5]] (by rfl) rfl rfl argsOk ?_
         with_reducible refine (selvagelaw10_same.calls k3 t480 t481 t482 t483 t484 _ _ t485 ((rd_T41 t428 x10_3).f0) ((rd_T41 t428 x10_3).f1) ((rd_T41 t428 x10_3).f2) ((rd_T41 t428 x10_3).f3) ((rd_T41 t428 x10_3).f4) _ _ ((rd_T41 t428 x10_3).f5) t489 _ ?side1 ?side2 ?side3 ?side4 A61.out).mono ?_
         (case side1 => repeat (first | exact (Kd.R_reads' HO487.out).2.2 | (with_reducible refine Kd.C_alloc ?_ _) | (with_reducible refine Kd.C_drewN ?_ _) | (with_reducible refine Kd.C_drew ?_)))
         (case side2 => exact (Kd.R_reads' HO487.out).2.1)
         (case side3 => repeat (first | exact (by repeat (first | (with_reducible exact HR460_5.out) | (with_reducible refine Kd.C_alloc ?_ _) | (with_reducible refine Kd.C_drewN ?_ _) | (with_reducible refine Kd.C_drew ?_) | exact HR460_5.out)) | (with_reducible refine Kd.C_alloc ?_ _) | (with_reducible refine Kd.C_drewN ?_ _) | (with_reducible refine Kd.C_drew ?_)))
         (case side4 => exact HC460_5.out)
         rintro e w71 ⟨rfl, hb⟩
         have HS0_ := (hb.cell (World.block_lt_of_cell? _ _ (hHeld.1))).trans (hHeld.1)
         have HS1_ := (hb.cell (World.block_lt_of_cell? _ _ (hHeld.2.1))).trans (hHeld.2.1)
         have HS2_ := (hb.cell (World.block_lt_of_cell? _ _ (hHeld.2.2.1))).trans (hHeld.2.2.1)
         have HS3_ := (hb.cell (World.block_lt_of_cell? _ _ (hHeld.2.2.2.1))).trans (hHeld.2.2.2.1)
         have HS4_ := (hb.cell (World.block_lt_of_cell? _ _ (hHeld.2.2.2.2.1))).trans (hHeld.2.2.2.2.1)
         have HS5_ := (hb.cell (World.block_lt_of_cell? _ _ (hHeld.2.2.2.2.2.1))).trans (hHeld.2.2.2.2.2.1)
         have HS6_ := (hb.cell (World.block_lt_of_cell? _ _ (hHeld.2.2.2.2.2.2.1))).trans (hHeld.2.2.2.2.2.2.1)
         have HS7_ := (hb.cell (World.block_lt_of_cell? _ _ (hHeld.2.2.2.2.2.2.2.1))).trans (hHeld.2.2.2.2.2.2.2.1)
         have HS8_ := (hb.cell (World.block_lt_of_cell? _ _ (hHeld.2.2.2.2.2.2.2.2.1))).trans (hHeld.2.2.2.2.2.2.2.2.1)
         have HS9_ := (hb.cell (World.block_lt_of_cell? _ _ (hHeld.2.2.2.2.2.2.2.2.2.1))).trans (hHeld.2.2.2.2.2.2.2.2.2.1)
         have HS10_ := (hb.cell (World.block_lt_of_cell? _ _ (hHeld.2.2.2.2.2.2.2.2.2.2.1))).trans (hHeld.2.2.2.2.2.2.2.2.2.2.1)
         have HS11_ := (hb.cell (World.block_lt_of_cell? _ _ (hHeld.2.2.2.2.2.2.2.2.2.2.2.1))).trans (hHeld.2.2.2.2.2.2.2.2.2.2.2.1)
         have HS12_ := (hb.cell (World.block_lt_of_cell? _ _ (hHeld.2.2.2.2.2.2.2.2.2.2.2.2.1))).trans (hHeld.2.2.2.2.2.2.2.2.2.2.2.2.1)
         have HS13_ := (hb.cell (World.block_lt_of_cell? _ _ (hHeld.2.2.2.2.2.2.2.2.2.2.2.2.2.1))).trans (hHeld.2.2.2.2.2.2.2.2.2.2.2.2.2.1)
         have HS14_ := (hb.cell (World.block_lt_of_cell? _ _ (hHeld.2.2.2.2.2.2.2.2.2.2.2.2.2.2.1))).trans (hHeld.2.2.2.2.2.2.2.2.2.2.2.2.2.2.1)
         have HS15_ := (hb.cell (World.block_lt_of_cell? _ _ (hHeld.2.2.2.2.2.2.2.2.2.2.2.2.2.2.2.1))).trans (hHeld.2.2.2.2.2.2.2.2.2.2.2.2.2.2.2.1)
         have HS16_ := (hb.cell (World.block_lt_of_cell? _ _ (hHeld.2.2.2.2.2.2.2.2.2.2.2.2.2.2.2.2.1))).trans (hHeld.2.2.2.2.2.2.2.2.2.2.2.2.2.2.2.2.1)
         have HS17_ := (hb.cell (World.block_lt_of_cell? _ _ (hHeld.2.2.2.2.2.2.2.2.2.2.2.2.2.2.2.2.2.1))).trans (hHeld.2.2.2.2.2.2.2.2.2.2.2.2.2.2.2.2.2.1)
         have HS18_ := (hb.cell (World.block_lt_of_cell? _ _ (hHeld.2.2.2.2.2.2.2.2.2.2.2.2.2.2.2.2.2.2.1))).trans (hHeld.2.2.2.2.2.2.2.2.2.2.2.2.2.2.2.2.2.2.1)
         have HS19_ := (hb.cell (World.block_lt_of_cell? _ _ (hHeld.2.2.2.2.2.2.2.2.2.2.2.2.2.2.2.2.2.2.2.1))).trans (hHeld.2.2.2.2.2.2.2.2.2.2.2.2.2.2.2.2.2.2.2.1)
         have HS20_ := (hb.cell (World.block_lt_of_cell? _ _ (hHeld.2.2.2.2.2.2.2.2.2.2.2.2.2.2.2.2.2.2.2.2.1))).trans (hHeld.2.2.2.2.2.2.2.2.2.2.2.2.2.2.2.2.2.2.2.2.1)
         have HS21_ := (hb.cell (World.block_lt_of_cell? _ _ (hHeld.2.2.2.2.2.2.2.2.2.2.2.2.2.2.2.2.2.2.2.2.2.1))).trans (hHeld.2.2.2.2.2.2.2.2.2.2.2.2.2.2.2.2.2.2.2.2.2.1)
         have HS22_ := (hb.cell (World.block_lt_of_cell? _ _ (hHeld.2.2.2.2.2.2.2.2.2.2.2.2.2.2.2.2.2.2.2.2.2.2.1))).trans (hHeld.2.2.2.2.2.2.2.2.2.2.2.2.2.2.2.2.2.2.2.2.2.2.1)
         have HS23_ := (hb.cell (World.block_lt_of_cell? _ _ (hHeld.2.2.2.2.2.2.2.2.2.2.2.2.2.2.2.2.2.2.2.2.2.2.2))).trans (hHeld.2.2.2.2.2.2.2.2.2.2.2.2.2.2.2.2.2.2.2.2.2.2.2)
         refine ⟨_, rfl, ?_⟩
         replace HO_3 := Aside0.mk (Kd.S_below (by (with_reducible repeat (first | apply Kd.S_alloc | apply Kd.S_drewN | apply Kd.S_drew)); exact HO_3.out) hb)
         replace HO_8 := Aside0.mk (Kd.S_below (by (with_reducible repeat (first | apply Kd.S_alloc | apply Kd.S_drewN | apply Kd.S_drew)); exact HO_8.out) hb)
         replace HL460_5 := Aside0.mk (Kd.R_below (by (with_reducible repeat (first | apply Kd.R_alloc | apply Kd.R_drewN | apply Kd.R_drew)); exact HL460_5.out) hb)
         replace HL469_5 := Aside0.mk (Kd.R_below (by (with_reducible repeat (first | apply Kd.R_alloc | apply Kd.R_drewN | apply Kd.R_drew)); exact HL469_5.out) hb)
         replace HO468 := Aside0.mk (Kd.R_below (kdUp HO468.out) hb)
         replace HO479 := Aside0.mk (Kd.R_below (kdUp HO479.out) hb)
         replace HO487 := Aside0.mk (Kd.R_below (kdUp HO487.out) hb)
         replace BK418 := bkD BK418 hb
         replace HR460_5 := Aside0.mk (Kd.C_below (by repeat (first | (with_reducible exact HR460_5.out) | (with_reducible refine Kd.C_alloc ?_ _) | (with_reducible refine Kd.C_drewN ?_ _) | (with_reducible refine Kd.C_drew ?_) | exact HR460_5.out)) hb)
         replace HR469_5 := Aside0.mk (Kd.C_below (by repeat (first | (with_reducible exact HR469_5.out) | (with_reducible refine Kd.C_alloc ?_ _) | (with_reducible refine Kd.C_drewN ?_ _) | (with_reducible refine Kd.C_drew ?_) | exact HR469_5.out)) hb)
         replace HB := hbD HB hb
         (try clear hb)
         (try clear hb2)
         (try clear hk)
         (try clear hi)
         refine hK.out _ _ ⟨HS0_, HS1_, HS2_, HS3_, HS4_, HS5_, HS6_, HS7_, HS8_, HS9_, HS10_, HS11_, HS12_, HS13_, HS14_, HS15_, HS16_, HS17_, HS18_, HS19_, HS20_, HS21_, HS22_, HS23_⟩ (fun hHeld => ?_)
         clear hK K
         refine norm_ (a' := ?_) ?_ ?_
         rotate_left
         ·show Act.put _ (some 122) _ = _
          simp only [Act.put, List.setIfInBounds_toArray, List.set_cons_zero, List.set_cons_succ, i64_w, i32_w]
          rfl
         refine pureT 23 ?_
         refine pureT 24 ?_
         refine done_ (done_of HT_.out (by kernel_rfl)) ?_
         try go_wp2
         go_meet
         case rel => exact ⟨_, (!t489), eqNow, H', ⟨by have := HK1.out; have := HJ35.out; have := HK3.out; first | omega | exact Nat.le_refl _⟩, ⟨by (with_reducible repeat (first | apply Kd.S_alloc | apply Kd.S_drewN | apply Kd.S_drew)); exact Kd.S_mono HO_3.out (fun _ hk => hk.1.1.1)⟩, ⟨by (with_reducible repeat (first | apply Kd.S_alloc | apply Kd.S_drewN | apply Kd.S_drew)); exact Kd.S_mono HO_8.out (fun _ hk => hk.1.1.1)⟩, ⟨bkUp BK418.out⟩, ⟨belPut⟩⟩
        case rest =>
         clear HC52
         obtain ⟨kq, x124_51, rfl, HA, HJ51, HO_3, HO_8, BK418, HB⟩ := hcut
         cases kq with
         | zero => exact absurd HA.out (by simp [selvagelaw10_HunksTurned.j3])
         | succ kj51 =>
          have H := HA.out
          clear HA
          simp only [selvagelaw10_HunksTurned.j3] at H
          by_cases c77 : x124_51 = true
          ·rw [if_pos c77] at H
           exact absurd H (by simp)
          replace c77 := Bool.eq_false_iff.mpr c77
          subst c77
          have H1 : (if 0 ≤ x10_3 then (if x10_3 < (t428.length : Int) then ((hunks_Sides.f kj51 ((rd_T41 t428 x10_3).f0) ((rd_T41 t428 x10_3).f1) ((rd_T41 t428 x10_3).f2) ((rd_T41 t428 x10_3).f3) ((rd_T41 t428 x10_3).f4) ((rd_T41 t428 x10_3).f5)).bind fun bt491 => ((selvageref01_Valid.f kj51 l0_2).bind fun t497 => (if t497 = true then (if (bt491.2.length : Int) = ((rd_T41 t428 x10_3).f3) then (selvagelaw10_HunksTurned.l1 kj51 t428 t454 (wrap64 (x10_3 + 1)) l0_0 l0_1 l0_2 a0_3) else (none)) else (none)))) else (none)) else (none)) = some r := by rw [if_neg (show ¬ (false = true) by decide)] at H; exact H
          clear H
          have H := H1
          clear H1
          replace H := itLn H
          rcases H with ⟨_, _, H⟩ | ⟨-, c78b0, H⟩
          ·cases H
          replace H := itLn H
          rcases H with ⟨_, _, H⟩ | ⟨-, c79b0, H⟩
          ·cases H
          replace H := bdS H
          obtain ⟨⟨t491, t494⟩, A80, H⟩ := H
          replace H : ((selvageref01_Valid.f kj51 l0_2).bind fun t497 => (if t497 = true then (if (t494.length : Int) = ((rd_T41 t428 x10_3).f3) then (selvagelaw10_HunksTurned.l1 kj51 t428 t454 (wrap64 (x10_3 + 1)) l0_0 l0_1 l0_2 a0_3) else (none)) else (none))) = some r := H
          replace H := bdS H
          obtain ⟨t497, A81, H⟩ := H
          by_cases c82 : t497 = true
          rotate_left
          ·rw [if_neg c82] at H
           exact absurd H (by simp)
          subst c82
          have H1 : (if (t494.length : Int) = ((rd_T41 t428 x10_3).f3) then (selvagelaw10_HunksTurned.l1 kj51 t428 t454 (wrap64 (x10_3 + 1)) l0_0 l0_1 l0_2 a0_3) else (none)) = some r := by rw [if_pos rfl] at H; exact H
          clear H
          have H := H1
          clear H1
          replace H := itEn H
          rcases H with ⟨_, _, _, H⟩ | ⟨-, c83b0, c83b1, H⟩
          ·cases H
          have H' := Aside0.mk H
          clear H
          have p490 : 0 ≤ (x10_3 : Int) := ofDec
          have q490 : x10_3 < (t428.length : Int) := ofDec
          obtain ⟨ad490, A490_5, c490_5, e490, hx490_0, hx490_1, hx490_2, hx490_3, hx490_4, hx490_5, hl490_5, hi490_5⟩ := at_T41 (Kd.S_reads' HO_3.out).2.2 x10_3 p490 q490
          cases e490
          obtain ⟨ce490, hce490, hMe490, hcc490⟩ := Kd.S_get HO_3.out z41 x10_3 p490 (by first | exact q490 | exact ofDec | (have e_ := (Kd.S_reads' HO_3.out).1; omega))
          obtain ⟨ve490_5, rfl, ge490_5⟩ := k41_openM hMe490
          have hv490_5 := hcc490 5 _ rfl
          rw [add_field _ _ 5 (by omega)] at hv490_5
          replace hv490_5 := Option.some.inj (hv490_5.symm.trans hx490_5)
          rw [hv490_5] at ge490_5
          have HL490_5 := Aside0.mk (show Kd.R k56 56 _ _ _ _ ((rd_T41 t428 x10_3).f5) from ge490_5)
          clear hv490_5 ge490_5
          clear hcc490 hce490
          have HR490_5 := Aside0.mk hi490_5
          have HC490_5 := Aside0.mk hl490_5
          clear hi490_5 hl490_5
          replace p490 := eq_true p490
          replace q490 := eq_true q490
          go_wp2_with (first | ((with_reducible refine gate_callee (f := 13) rfl ?_); refine goL (some 130) Tryd.func13 #[.agg #[.int .i64 ((rd_T41 t428 x10_3).f0), .int .i64 ((rd_T41 t428 x10_3).f1), .int .i64 ((rd_T41 t428 x10_3).f2), .int .i64 ((rd_T41 t428 x10_3).f3), .string ((rd_T41 t428 x10_3).f4), .slice A490_5 ((rd_T41 t428 x10_3).f5).length c490_5]] ?_; (with_reducible refine (hunks_Sides.calls kj51 ((rd_T41 t428 x10_3).f0) ((rd_T41 t428 x10_3).f1) ((rd_T41 t428 x10_3).f2) ((rd_T41 t428 x10_3).f3) ((rd_T41 t428 x10_3).f4) _ _ ((rd_T41 t428 x10_3).f5) t491 t494 _ ?side1 ?side2 A80.out).mono ?_); (case side1 => repeat (first | exact (by repeat (first | (with_reducible exact HR490_5.out) | (with_reducible refine Kd.C_alloc ?_ _) | (with_reducible refine Kd.C_drewN ?_ _) | (with_reducible refine Kd.C_drew ?_) | exact HR490_5.out)) | (with_reducible refine Kd.C_alloc ?_ _) | (with_reducible refine Kd.C_drewN ?_ _) | (with_reducible refine Kd.C_drew ?_))); (case side2 => exact HC490_5.out); rintro e w84 ⟨v492, v495, rfl, ho0, ho1, hb⟩; refine ⟨_, rfl, ?_⟩; replace HO_3 := Aside0.mk (Kd.S_below (by (with_reducible repeat (first | apply Kd.S_alloc | apply Kd.S_drewN | apply Kd.S_drew)); exact HO_3.out) hb); replace HO_8 := Aside0.mk (Kd.S_below (by (with_reducible repeat (first | apply Kd.S_alloc | apply Kd.S_drewN | apply Kd.S_drew)); exact HO_8.out) hb); replace HL490_5 := Aside0.mk (Kd.R_below (by (with_reducible repeat (first | apply Kd.R_alloc | apply Kd.R_drewN | apply Kd.R_drew)); exact HL490_5.out) hb); have HO493 := Aside0.mk (Kd.R_lower ho0 (below_size (belPut))); have HO496 := Aside0.mk (Kd.R_lower ho1 (below_size (belPut))); replace BK418 := bkD BK418 hb; replace HR490_5 := Aside0.mk (Kd.C_below (by repeat (first | (with_reducible exact HR490_5.out) | (with_reducible refine Kd.C_alloc ?_ _) | (with_reducible refine Kd.C_drewN ?_ _) | (with_reducible refine Kd.C_drew ?_) | exact HR490_5.out)) hb); replace HB := hbD HB hb; clear hb; (try clear ho0); (try clear ho1); obtain ⟨hcz85_0, hcz85_1, hcz85_2, hcz85_3, hfz85_0, hfz85_1, hfz85_2, hfz85_3⟩ := bcf4 (W := w84) BK418) | ((with_reducible refine gate_callee (f := 14) rfl ?_); refine goL (some 135) Tryd.func14 #[.slice A0_2 l0_2.length c0_2] ?_; (with_reducible refine (selvageref01_Valid.calls kj51 _ _ l0_2 true _ ?side1 ?side2 A81.out).mono ?_); (case side1 => exact kcU HR0_2 HB); (case side2 => exact HC0_2.out); rintro e w' ⟨rfl, ⟨nd, rfl⟩⟩; refine ⟨_, rfl, ?_⟩; obtain ⟨Ao86, co86, eo86⟩ := Kd.R_slice HO496.out; subst eo86; have p498 : 0 ≤ (x10_3 : Int) := ofDec; have q498 : x10_3 < (t428.length : Int) := ofDec; obtain ⟨ad498, A498_5, c498_5, e498, hx498_0, hx498_1, hx498_2, hx498_3, hx498_4, hx498_5, hl498_5, hi498_5⟩ := at_T41 (Kd.S_reads' HO_3.out).2.2 x10_3 p498 q498; obtain rfl : ad490 = ad498 := (by injection e498); obtain ⟨ce498, hce498, hMe498, hcc498⟩ := Kd.S_get HO_3.out z41 x10_3 p498 (by first | exact q498 | exact ofDec | (have e_ := (Kd.S_reads' HO_3.out).1; omega)); obtain ⟨ve498_5, rfl, ge498_5⟩ := k41_openM hMe498; have hv498_5 := hcc498 5 _ rfl; rw [add_field _ _ 5 (by omega)] at hv498_5; replace hv498_5 := Option.some.inj (hv498_5.symm.trans hx498_5); rw [hv498_5] at ge498_5; have HL498_5 := Aside0.mk (show Kd.R k56 56 _ _ _ _ ((rd_T41 t428 x10_3).f5) from ge498_5); clear hv498_5 ge498_5; clear hcc498 hce498; have HR498_5 := Aside0.mk hi498_5; have HC498_5 := Aside0.mk hl498_5; clear hi498_5 hl498_5; replace p498 := eq_true p498; replace q498 := eq_true q498))
          go_roundg kj51
          case measure => have := HK1.out; have := HJ35.out; have := HK3.out; have := HJ51.out; omega
          case rel => exact ⟨(wrap64 (x10_3 + 1)), eqNow, H', ⟨by have := HK1.out; have := HJ35.out; have := HK3.out; have := HJ51.out; omega⟩, ⟨kdMv HO_3⟩, ⟨kdMv HO_8⟩, ⟨bkUp BK418.out⟩, ⟨belPut⟩⟩
 have H1 : ((selvagelaw10_works.f k).bind fun t499 => (some t499)) = some r := by rw [if_neg (show ¬ (some q432).isNone = true by simp)] at H; exact H
 clear H
 have H := H1
 clear H1
 try simp only [errW_none, errW_some]
 replace H := bdS H
 obtain ⟨t499, A95, H⟩ := H
 obtain rfl := Option.some.inj H
 go_enter Tryd.func3, Tryd.ntmps3
 try go_wp2_with (first | ((with_reducible refine gate_dst (N := 1) rfl ?_); (try (refine gate_guard (by rfl) ?_; dsimp only)); refine boxEv (N := 1) #[.slice A0_0 l0_0.length c0_0, .slice A0_1 l0_1.length c0_1, .slice A0_2 l0_2.length c0_2, .int .i64 a0_3] 25 ?_; intro gb418 hg w96 hbox hb; have BK418 := Aside0.mk hbox; have GW418 := gwN HB hg; have GE418 := GW418; replace HB := hbD HB hb; clear hb hbox hg))
 replace BK418 := Aside0.mk (blk_drew BK418.out)
 replace HB := Aside0.mk (below_drew1 HB.out)
 refine start_ (n := 17) (S := fun w' => w'.cell? ⟨gb418, 0, none⟩ = some (.slice A0_0 l0_0.length c0_0) ∧ w'.cell? ⟨gb418, 1, none⟩ = some (.slice A0_1 l0_1.length c0_1) ∧ w'.cell? ⟨gb418, 2, none⟩ = some (.slice A0_2 l0_2.length c0_2) ∧ w'.cell? ⟨gb418, 3, none⟩ = some (.int .i64 a0_3)) (ds := []) #[false, false, false, false, false, false, false, false, false, false, false, false, false, false, false, false, false] (by kernel_rfl) rfl rfl ⟨bc BK418 0, bc BK418 1, bc BK418 2, bc BK418 3⟩ (fun hHeld => ?_); refine with_tabW selvagelaw10_HunksTurned.tab1 selvagelaw10_HunksTurned.bits1 (fun HT_ HW_ => ?_)
 generalize w96.drew = w97 at BK418 HB hHeld ⊢
 refine pureT 0 ?_
 refine pureT 3 ?_
 refine pureT 6 ?_
 refine pureT 9 ?_
 refine takeT 1 hHeld ?_
 refine takeT 4 hHeld ?_
 refine takeT 7 hHeld ?_
 refine takeT 10 hHeld ?_
 refine one_ (i := 2) (N := some 16) #[true, true, true, true, true, false, true, true, false, true, true, false, false, false, false, false, false] rfl rfl (one_of HT_.out (by kernel_rfl)) (by decide) (fun K hK => ?_)
 refine goes_ Tryd.func6 (by kernel_rfl) rfl #[.slice A0_0 l0_0.length c0_0] (by rfl) rfl rfl argsOk ?_
 with_reducible refine (selvagelaw10_changes.calls _ _ l0_0 t419 _ ?side1 ?side2 A2.out).mono ?_
 (case side1 => exact kcU HR0_0 HB)
 (case side2 => exact HC0_0.out)
 rintro e w98 ⟨v420, rfl, ho0, hb⟩
 refine ⟨_, rfl, ?_⟩
 have HO421 := Aside0.mk (Kd.R_lower ho0 (below_size (belPut)))
 replace BK418 := bkD BK418 hb
 replace HB := hbD HB hb
 (try clear hb)
 (try clear hb2)
 (try clear hk)
 (try clear hi)
 (try clear ho0)
 refine hK.out _ _ ⟨bc BK418 0, bc BK418 1, bc BK418 2, bc BK418 3⟩ (fun hHeld => ?_)
 clear hK K
 refine norm_ (a' := ?_) ?_ ?_
 rotate_left
 ·show Act.put _ (some 16) _ = _
  simp only [Act.put, List.setIfInBounds_toArray, List.set_cons_zero, List.set_cons_succ, i64_w, i32_w]
  rfl
 refine one_ (i := 5) (N := some 19) #[true, true, true, true, true, true, true, true, false, true, true, false, false, false, false, false, false] rfl rfl (one_of HT_.out (by kernel_rfl)) (by decide) (fun K hK => ?_)
 refine goes_ Tryd.func7 (by kernel_rfl) rfl #[.slice A0_1 l0_1.length c0_1] (by rfl) rfl rfl argsOk ?_
 with_reducible refine (selvagelaw10_texts.calls _ _ l0_1 t422 _ ?side1 ?side2 A3.out).mono ?_
 (case side1 => exact kcU HR0_1 HB)
 (case side2 => exact HC0_1.out)
 rintro e w99 ⟨v423, rfl, ho0, hb⟩
 refine ⟨_, rfl, ?_⟩
 replace HO421 := Aside0.mk (Kd.R_below (kdUp HO421.out) hb)
 have HO424 := Aside0.mk (Kd.R_lower ho0 (below_size (belPut)))
 replace BK418 := bkD BK418 hb
 replace HB := hbD HB hb
 (try clear hb)
 (try clear hb2)
 (try clear hk)
 (try clear hi)
 (try clear ho0)
 refine hK.out _ _ ⟨bc BK418 0, bc BK418 1, bc BK418 2, bc BK418 3⟩ (fun hHeld => ?_)
 clear hK K
 refine norm_ (a' := ?_) ?_ ?_
 rotate_left
 ·show Act.put _ (some 19) _ = _
  simp only [Act.put, List.setIfInBounds_toArray, List.set_cons_zero, List.set_cons_succ, i64_w, i32_w]
  rfl
 refine one_ (i := 8) (N := some 22) #[true, true, true, true, true, true, true, true, true, true, true, false, false, false, false, false, false] rfl rfl (one_of HT_.out (by kernel_rfl)) (by decide) (fun K hK => ?_)
 refine goes_ Tryd.func7 (by kernel_rfl) rfl #[.slice A0_2 l0_2.length c0_2] (by rfl) rfl rfl argsOk ?_
 with_reducible refine (selvagelaw10_texts.calls _ _ l0_2 t425 _ ?side1 ?side2 A4.out).mono ?_
 (case side1 => exact kcU HR0_2 HB)
 (case side2 => exact HC0_2.out)
 rintro e w100 ⟨v426, rfl, ho0, hb⟩
 refine ⟨_, rfl, ?_⟩
 replace HO421 := Aside0.mk (Kd.R_below (kdUp HO421.out) hb)
 have HO427 := Aside0.mk (Kd.R_lower (Kd.R_new' ho0 (Kd.R_lt (kdUp HO424.out))) (below_size (belPut)))
 replace HO424 := Aside0.mk (Kd.R_elder' (kdUp HO424.out) (Kd.R_base ho0) hb)
 replace BK418 := bkD BK418 hb
 replace HB := hbD HB hb
 (try clear hb)
 (try clear hb2)
 (try clear hk)
 (try clear hi)
 (try clear ho0)
 obtain ⟨Ao101, co101, eo101⟩ := Kd.R_slice HO421.out
 (first | subst eo101 | (injection eo101 with f1_ f2_ f3_; have f4_ := f1_.symm; have f5_ := f3_.symm; clear f1_ f2_ f3_; subst f4_; subst f5_))
 obtain ⟨Ao102, co102, eo102⟩ := Kd.R_slice HO424.out
 (first | subst eo102 | (injection eo102 with f1_ f2_ f3_; have f4_ := f1_.symm; have f5_ := f3_.symm; clear f1_ f2_ f3_; subst f4_; subst f5_))
 obtain ⟨Ao103, co103, eo103⟩ := Kd.R_slice HO427.out
 (first | subst eo103 | (injection eo103 with f1_ f2_ f3_; have f4_ := f1_.symm; have f5_ := f3_.symm; clear f1_ f2_ f3_; subst f4_; subst f5_))
 refine hK.out _ _ ⟨bc BK418 0, bc BK418 1, bc BK418 2, bc BK418 3⟩ (fun hHeld => ?_)
 clear hK K
 refine norm_ (a' := ?_) ?_ ?_
 rotate_left
 ·show Act.put _ (some 22) _ = _
  simp only [Act.put, List.setIfInBounds_toArray, List.set_cons_zero, List.set_cons_succ, i64_w, i32_w]
  rfl
 refine one_ (i := 11) (N := some 25) #[true, true, true, true, true, true, true, true, true, true, true, true, false, false, false, false, false] rfl rfl (one_of HT_.out (by kernel_rfl)) (by decide) (fun K hK => ?_)
 refine goes_ Tryd.func5 (by kernel_rfl) rfl #[.slice Ao101 t419.length co101, .slice Ao102 t422.length co102, .slice Ao103 t425.length co103, .int .i64 a0_3] (by rfl) rfl rfl argsOk ?_
 with_reducible refine (hunks_Build.calls k _ _ t419 _ _ t422 _ _ t425 a0_3 t428 (some q432) _ ?side1 ?side2 ?side3 ?side4 ?side5 ?side6 A5.out).mono ?_
 (case side1 => repeat (first | exact (Kd.R_reads' HO421.out).2.2 | (with_reducible refine Kd.C_alloc ?_ _) | (with_reducible refine Kd.C_drewN ?_ _) | (with_reducible refine Kd.C_drew ?_)))
 (case side2 => exact (Kd.R_reads' HO421.out).2.1)
 (case side3 => repeat (first | exact (Kd.R_reads' HO424.out).2.2 | (with_reducible refine Kd.C_alloc ?_ _) | (with_reducible refine Kd.C_drewN ?_ _) | (with_reducible refine Kd.C_drew ?_)))
 (case side4 => exact (Kd.R_reads' HO424.out).2.1)
 (case side5 => repeat (first | exact (Kd.R_reads' HO427.out).2.2 | (with_reducible refine Kd.C_alloc ?_ _) | (with_reducible refine Kd.C_drewN ?_ _) | (with_reducible refine Kd.C_drew ?_)))
 (case side6 => exact (Kd.R_reads' HO427.out).2.1)
 rintro e w104 ⟨v430, rfl, ho0, hb⟩
 refine ⟨_, rfl, ?_⟩
 replace HO421 := Aside0.mk (Kd.R_below (kdUp HO421.out) hb)
 replace HO424 := Aside0.mk (Kd.R_below (kdUp HO424.out) hb)
 replace HO427 := Aside0.mk (Kd.R_below (kdUp HO427.out) hb)
 have HO431 := Aside0.mk (Kd.S_lower ho0 (below_size (belPut)))
 replace BK418 := bkD BK418 hb
 replace HB := hbD HB hb
 (try clear hb)
 (try clear hb2)
 (try clear hk)
 (try clear hi)
 (try clear ho0)
 (try simp only [errW_none, errW_some])
 refine hK.out _ _ ⟨bc BK418 0, bc BK418 1, bc BK418 2, bc BK418 3⟩ (fun hHeld => ?_)
 clear hK K
 refine norm_ (a' := ?_) ?_ ?_
 rotate_left
 ·show Act.put _ (some 25) _ = _
  simp only [Act.put, List.setIfInBounds_toArray, List.set_cons_zero, List.set_cons_succ, i64_w, i32_w]
  rfl
 refine pureT 12 ?_
 refine pureT 13 ?_
 refine pureT 14 ?_
 refine pureT 15 ?_
 refine pureT 16 ?_
 refine done_ (done_of HT_.out (by kernel_rfl)) ?_
 try go_wp2_with (first | ((with_reducible refine gate_callee (f := 8) rfl ?_); refine goL (some 30) Tryd.func8 #[] ?_; (with_reducible refine (selvagelaw10_works.calls k  t499 _ ?side1 A95.out).mono ?_); (case side1 => exact Glob.below hGL (belPut)); rintro e w105 ⟨rfl, hb⟩; refine ⟨_, rfl, ?_⟩; replace HO421 := Aside0.mk (Kd.R_below (kdUp HO421.out) hb); replace HO424 := Aside0.mk (Kd.R_below (kdUp HO424.out) hb); replace HO427 := Aside0.mk (Kd.R_below (kdUp HO427.out) hb); replace HO431 := Aside0.mk (Kd.S_below (by (with_reducible repeat (first | apply Kd.S_alloc | apply Kd.S_drewN | apply Kd.S_drew)); exact HO431.out) hb); replace BK418 := bkD BK418 hb; replace HB := hbD HB hb; clear hb))
 go_ret
 exact ⟨eqEnd, belPut⟩
end Go.Proofs.YtecjoofjiockkaaDoor.Pp
