import Derived.Test.YtecjoofjiockkaaDoorESt
import Derived.Test.YtecjoofjiockkaaDoorPp0
import Derived.Test.YtecjoofjiockkaaDoorPp2
import Derived.Test.YtecjoofjiockkaaDoorPp3
import Derived.Test.YtecjoofjiockkaaDoorPp4
import Derived.Test.YtecjoofjiockkaaDoorPp6
import Derived.Test.YtecjoofjiockkaaDoorPp7
import Derived.Test.YtecjoofjiockkaaDoorPp8
import Derived.Test.YtecjoofjiockkaaDoorPp11
import Derived.Test.YtecjoofjiockkaaDoorPp12
import Derived.Test.YtecjoofjiockkaaDoorPp13
import Derived.Test.YtecjoofjiockkaaDoorPp14
import Derived.Test.YtecjoofjiockkaaDoorPp15
import Derived.Test.YtecjoofjiockkaaDoorPp16
import Derived.Test.YtecjoofjiockkaaDoorPp17
import Derived.Test.YtecjoofjiockkaaDoorPp18
import Derived.Test.YtecjoofjiockkaaDoorPp19
import Derived.Test.YtecjoofjiockkaaDoorPp26
import Derived.Test.YtecjoofjiockkaaDoorPp31
import Derived.Test.YtecjoofjiockkaaDoorPp50
import Derived.Test.YtecjoofjiockkaaDoorEScript
namespace Go.Proofs.YtecjoofjiockkaaDoor.Pp
open Go.RowKit Go.Proofs.YtecjoofjiockkaaDoor.Ext Go.Proofs.YtecjoofjiockkaaDoorW.PrintWords Go.Proofs.YtecjoofjiockkaaDoorW.PrintLast Go.Proofs.YtecjoofjiockkaaDoorW.PrintMore
attribute [local go_sem] max2_int min2_int max_two min_two max_three min_three max_four min_four   -- for this text's walks alone
set_option linter.unusedVariables false
set_option linter.unusedSimpArgs false
attribute [local go_sem high] eqA53
mutual
def selvagelaw10_HunksAround.j0 : Nat → List (S41) → List (S53) → List (S53) → Bool → List (S53) → List ByteArray → List ByteArray → Int → Option (Bool)
 | 0, _, _, _, _, _, _, _, _ => none
 | k + 1, x3, x5, x7, x80, x342000, x342001, x342002, x342003 => if x80 = true then (some false) else (selvagelaw10_HunksAround.l0 k x3 x5 x7 0 x342000 x342001 x342002 x342003)
def selvagelaw10_HunksAround.l0 : Nat → List (S41) → List (S53) → List (S53) → Int → List (S53) → List ByteArray → List ByteArray → Int → Option (Bool)
 | 0, _, _, _, _, _, _, _, _ => none
 | k + 1, x3, x5, x7, x9, x342000, x342001, x342002, x342003 => if x9 < (x5.length : Int) then (if 0 ≤ x9 then (if x9 < (x7.length : Int) then (if (!(((rd_T53 x5 x9).f0) == ((rd_T53 x7 x9).f0)) || (!(((rd_T53 x5 x9).f1) == ((rd_T53 x7 x9).f1)) || (!(((rd_T53 x5 x9).f2) == ((rd_T53 x7 x9).f2)) || (!(((rd_T53 x5 x9).f3) == ((rd_T53 x7 x9).f3)))))) = true then (some false) else (selvagelaw10_HunksAround.l0 k x3 x5 x7 (wrap64 (x9 + 1)) x342000 x342001 x342002 x342003)) else (none)) else (none)) else (selvagelaw10_HunksAround.l1 k x3 0 x342000 x342001 x342002 x342003)
def selvagelaw10_HunksAround.l1 : Nat → List (S41) → Int → List (S53) → List ByteArray → List ByteArray → Int → Option (Bool)
 | 0, _, _, _, _, _, _ => none
 | k + 1, x3, x10, x342000, x342001, x342002, x342003 => if x10 < (x3.length : Int) then (if 0 ≤ x10 then ((hunks_Sides.f k ((rd_T41 x3 x10).f0) ((rd_T41 x3 x10).f1) ((rd_T41 x3 x10).f2) ((rd_T41 x3 x10).f3) ((rd_T41 x3 x10).f4) ((rd_T41 x3 x10).f5)).bind fun bt379 => (if ((rd_T41 x3 x10).f1) > 0 then (selvagelaw10_HunksAround.j3 k x3 x10 bt379.1 (wrap64 (((rd_T41 x3 x10).f0) - 1)) x342000 x342001 x342002 x342003) else (selvagelaw10_HunksAround.j3 k x3 x10 bt379.1 ((rd_T41 x3 x10).f0) x342000 x342001 x342002 x342003))) else (none)) else (if x342003 < (x342001.length : Int) then ((selvagelaw10_works.f k).bind fun t376 => (some t376)) else (if (x3.length : Int) < 2 then ((selvagelaw10_works.f k).bind fun t377 => (some t377)) else (some false)))
def selvagelaw10_HunksAround.j3 : Nat → List (S41) → Int → List ByteArray → Int → List (S53) → List ByteArray → List ByteArray → Int → Option (Bool)
 | 0, _, _, _, _, _, _, _, _ => none
 | k + 1, x3, x10, x11, x13, x342000, x342001, x342002, x342003 => (selvagelaw10_at.f k x11 x13 x342001).bind fun t387 => (if t387 = true then (selvagelaw10_HunksAround.l2 k x3 x10 0 x342000 x342001 x342002 x342003) else (some false))
def selvagelaw10_HunksAround.l2 : Nat → List (S41) → Int → Int → List (S53) → List ByteArray → List ByteArray → Int → Option (Bool)
 | 0, _, _, _, _, _, _, _ => none
 | k + 1, x3, x10, x14, x342000, x342001, x342002, x342003 => if 0 ≤ x10 then (if x10 < (x3.length : Int) then (if x14 < (((rd_T41 x3 x10).f5).length : Int) then (if x342003 = 0 then (if 0 ≤ x14 then (if ((rd_T56 ((rd_T41 x3 x10).f5) x14).f0) = 1 then (some false) else (selvagelaw10_HunksAround.l2 k x3 x10 (wrap64 (x14 + 1)) x342000 x342001 x342002 x342003)) else (none)) else (selvagelaw10_HunksAround.l2 k x3 x10 (wrap64 (x14 + 1)) x342000 x342001 x342002 x342003)) else (selvagelaw10_HunksAround.l1 k x3 (wrap64 (x10 + 1)) x342000 x342001 x342002 x342003)) else (none)) else (none)
end
def selvagelaw10_HunksAround.f (k : Nat) (l0_0 : List (S53)) (l0_1 : List ByteArray) (l0_2 : List ByteArray) (a0_3 : Int) : Option (Bool) := (selvagelaw10_changes.f l0_0).bind fun t342 => ((selvagelaw10_texts.f l0_1).bind fun t345 => ((selvagelaw10_texts.f l0_2).bind fun t348 => ((hunks_Build.f k t342 t345 t348 a0_3).bind fun bt351 => (if bt351.2.isNone = true then ((selvagelaw10_twins.f k bt351.1).bind fun t356 => ((hunks_Script.f k t356 (l0_1.length : Int) (l0_2.length : Int)).bind fun bt359 => ((selvagelaw10_changes.f l0_0).bind fun t363 => ((edits_Normal.f k t363 (l0_1.length : Int) (l0_2.length : Int)).bind fun bt366 => (if bt359.2.isNone = true then (if bt366.2.isNone = true then (if (bt359.1.length : Int) = (bt366.1.length : Int) then ((hunks_Order.f k bt351.1).bind fun t372 => (if t372.isNone = true then (selvagelaw10_HunksAround.j0 k bt351.1 bt359.1 bt366.1 false l0_0 l0_1 l0_2 a0_3) else (selvagelaw10_HunksAround.j0 k bt351.1 bt359.1 bt366.1 true l0_0 l0_1 l0_2 a0_3))) else (selvagelaw10_HunksAround.j0 k bt351.1 bt359.1 bt366.1 true l0_0 l0_1 l0_2 a0_3)) else (selvagelaw10_HunksAround.j0 k bt351.1 bt359.1 bt366.1 true l0_0 l0_1 l0_2 a0_3)) else (selvagelaw10_HunksAround.j0 k bt351.1 bt359.1 bt366.1 true l0_0 l0_1 l0_2 a0_3)))))) else (if (bt351.1.length : Int) = 0 then ((selvagelaw10_works.f k).bind fun t391 => (some t391)) else (some false))))))
def selvagelaw10_HunksAround.T1 : Bool × List (List Nat × List Nat) := (true, [([], []), ([0], [0]), ([1], [1]), ([], []), ([3], [3]), ([4, 2], [4]), ([], []), ([6], [6]), ([7, 5], [7]), ([], []), ([9], [9]), ([2, 5, 8, 10, 8], [2, 5, 8, 10]), ([11], [11]), ([12], [12]), ([12], [12]), ([13, 11, 0, 1, 2, 3, 4, 5, 6, 7, 8, 9, 10, 11, 12, 13], [13]), ([14, 15, 0, 1, 2, 3, 4, 5, 6, 7, 8, 9, 10, 11, 12, 13, 14, 15], [14])])
def selvagelaw10_HunksAround.B1 : List Nat := [0, 1, 3, 0, 8, 31, 0, 64, 255, 0, 512, 2047, 4095, 8191, 8191, 16383, 65535]
theorem selvagelaw10_HunksAround.tab1 : rtab .any (opsOf Tryd.f4 1) = selvagelaw10_HunksAround.T1 := by kernel_rfl
theorem selvagelaw10_HunksAround.bits1 : waitsOk selvagelaw10_HunksAround.T1.2 selvagelaw10_HunksAround.B1 = true := by kernel_rfl
def selvagelaw10_HunksAround.T4 : Bool × List (List Nat × List Nat) := (true, [([], []), ([0], [0]), ([], []), ([2], [2]), ([3], [3]), ([], []), ([5], [5]), ([6], [6]), ([1, 4, 7, 1], [1, 4, 7]), ([8], [8]), ([9], [9]), ([9], [9]), ([10, 8, 0, 1, 2, 3, 4, 5, 6, 7, 8, 9, 10], [10]), ([11, 12, 0, 1, 2, 3, 4, 5, 6, 7, 8, 9, 10, 11, 12], [11])])
def selvagelaw10_HunksAround.B4 : List Nat := [0, 1, 0, 4, 12, 0, 32, 96, 255, 511, 1023, 1023, 2047, 8191]
theorem selvagelaw10_HunksAround.tab4 : rtab .any (opsOf Tryd.f4 4) = selvagelaw10_HunksAround.T4 := by kernel_rfl
theorem selvagelaw10_HunksAround.bits4 : waitsOk selvagelaw10_HunksAround.T4.2 selvagelaw10_HunksAround.B4 = true := by kernel_rfl
def selvagelaw10_HunksAround.T5 : Bool × List (List Nat × List Nat) := (true, [([], []), ([0], [0]), ([1], [1]), ([], []), ([3], [3]), ([4], [4]), ([], []), ([6], [6]), ([7], [7]), ([2, 5, 8, 2], [2, 5, 8]), ([9], [9]), ([10], [10]), ([10], [10]), ([11, 9, 0, 1, 2, 3, 4, 5, 6, 7, 8, 9, 10, 11], [11]), ([12, 13, 0, 1, 2, 3, 4, 5, 6, 7, 8, 9, 10, 11, 12, 13], [12])])
def selvagelaw10_HunksAround.B5 : List Nat := [0, 1, 3, 0, 8, 24, 0, 64, 192, 511, 1023, 2047, 2047, 4095, 16383]
theorem selvagelaw10_HunksAround.tab5 : rtab .any (opsOf Tryd.f4 5) = selvagelaw10_HunksAround.T5 := by kernel_rfl
theorem selvagelaw10_HunksAround.bits5 : waitsOk selvagelaw10_HunksAround.T5.2 selvagelaw10_HunksAround.B5 = true := by kernel_rfl
def selvagelaw10_HunksAround.T11 : Bool × List (List Nat × List Nat) := (true, [([], []), ([], []), ([0, 1], [0, 1]), ([2], [2]), ([], []), ([], []), ([4, 5], [4, 5]), ([6], [6]), ([3, 7], [3, 7])])
def selvagelaw10_HunksAround.B11 : List Nat := [0, 0, 3, 7, 0, 0, 48, 112, 255]
theorem selvagelaw10_HunksAround.tab11 : rtab .any (opsOf Tryd.f4 11) = selvagelaw10_HunksAround.T11 := by kernel_rfl
theorem selvagelaw10_HunksAround.bits11 : waitsOk selvagelaw10_HunksAround.T11.2 selvagelaw10_HunksAround.B11 = true := by kernel_rfl
set_option maxHeartbeats 80000000 in
set_option maxRecDepth 100000 in
theorem selvagelaw10_HunksAround.calls (k : Nat) (A0_0 : Option Addr) (c0_0 : Nat) (l0_0 : List (S53)) (A0_1 : Option Addr) (c0_1 : Nat) (l0_1 : List ByteArray) (A0_2 : Option Addr) (c0_2 : Nat) (l0_2 : List ByteArray) (a0_3 : Int) (r : Bool) (w : World) (hr0_0 : Kd.C k53 w A0_0 l0_0.length l0_0) (hc0_0 : l0_0.length ≤ c0_0) (hr0_1 : Kd.C Kd.string w A0_1 l0_1.length l0_1) (hc0_1 : l0_1.length ≤ c0_1) (hr0_2 : Kd.C Kd.string w A0_2 l0_2.length l0_2) (hc0_2 : l0_2.length ≤ c0_2) (hGL : Glob w) (h : selvagelaw10_HunksAround.f k l0_0 l0_1 l0_2 a0_3 = some r) :
  Calls Tryd.prog 4 #[.agg #[.slice A0_0 l0_0.length c0_0, .slice A0_1 l0_1.length c0_1, .slice A0_2 l0_2.length c0_2, .int .i64 a0_3]] w fun e w' => e = .returned (.bool r) ∧ Below w.heap.size w w' := by
 have hu25 := Tryd.underlying25
 have hu53 := Tryd.underlying53
 have hu41 := Tryd.underlying41
 have hu28 := Tryd.underlying28
 have hu57 := Tryd.underlying57
 have HR0_0 := Aside0.mk hr0_0
 have HC0_0 := Aside0.mk hc0_0
 clear hr0_0 hc0_0
 have HR0_1 := Aside0.mk hr0_1
 have HC0_1 := Aside0.mk hc0_1
 clear hr0_1 hc0_1
 have HR0_2 := Aside0.mk hr0_2
 have HC0_2 := Aside0.mk hc0_2
 clear hr0_2 hc0_2
 have HB := Aside0.mk (Below.refl w.heap.size w)
 have H := h
 clear h
 unfold selvagelaw10_HunksAround.f at H
 replace H := bdS H
 obtain ⟨t342, A2, H⟩ := H
 replace H := bdS H
 obtain ⟨t345, A3, H⟩ := H
 replace H := bdS H
 obtain ⟨t348, A4, H⟩ := H
 replace H := bdS H
 obtain ⟨⟨t351, t352⟩, A5, H⟩ := H
 replace H : (if t352.isNone = true then ((selvagelaw10_twins.f k t351).bind fun t356 => ((hunks_Script.f k t356 (l0_1.length : Int) (l0_2.length : Int)).bind fun bt359 => ((selvagelaw10_changes.f l0_0).bind fun t363 => ((edits_Normal.f k t363 (l0_1.length : Int) (l0_2.length : Int)).bind fun bt366 => (if bt359.2.isNone = true then (if bt366.2.isNone = true then (if (bt359.1.length : Int) = (bt366.1.length : Int) then ((hunks_Order.f k t351).bind fun t372 => (if t372.isNone = true then (selvagelaw10_HunksAround.j0 k t351 bt359.1 bt366.1 false l0_0 l0_1 l0_2 a0_3) else (selvagelaw10_HunksAround.j0 k t351 bt359.1 bt366.1 true l0_0 l0_1 l0_2 a0_3))) else (selvagelaw10_HunksAround.j0 k t351 bt359.1 bt366.1 true l0_0 l0_1 l0_2 a0_3)) else (selvagelaw10_HunksAround.j0 k t351 bt359.1 bt366.1 true l0_0 l0_1 l0_2 a0_3)) else (selvagelaw10_HunksAround.j0 k t351 bt359.1 bt366.1 true l0_0 l0_1 l0_2 a0_3)))))) else (if (t351.length : Int) = 0 then ((selvagelaw10_works.f k).bind fun t391 => (some t391)) else (some false))) = some r := H
 rcases t352 with _ | q355
 ·have H1 : ((selvagelaw10_twins.f k t351).bind fun t356 => ((hunks_Script.f k t356 (l0_1.length : Int) (l0_2.length : Int)).bind fun bt359 => ((selvagelaw10_changes.f l0_0).bind fun t363 => ((edits_Normal.f k t363 (l0_1.length : Int) (l0_2.length : Int)).bind fun bt366 => (if bt359.2.isNone = true then (if bt366.2.isNone = true then (if (bt359.1.length : Int) = (bt366.1.length : Int) then ((hunks_Order.f k t351).bind fun t372 => (if t372.isNone = true then (selvagelaw10_HunksAround.j0 k t351 bt359.1 bt366.1 false l0_0 l0_1 l0_2 a0_3) else (selvagelaw10_HunksAround.j0 k t351 bt359.1 bt366.1 true l0_0 l0_1 l0_2 a0_3))) else (selvagelaw10_HunksAround.j0 k t351 bt359.1 bt366.1 true l0_0 l0_1 l0_2 a0_3)) else (selvagelaw10_HunksAround.j0 k t351 bt359.1 bt366.1 true l0_0 l0_1 l0_2 a0_3)) else (selvagelaw10_HunksAround.j0 k t351 bt359.1 bt366.1 true l0_0 l0_1 l0_2 a0_3)))))) = some r := by rw [if_pos (show (none : Option Int).isNone = true by rfl)] at H; exact H
  clear H
  have H := H1
  clear H1
  try simp only [errW_none, errW_some]
  replace H := bdS H
  obtain ⟨t356, A6, H⟩ := H
  replace H := bdS H
  obtain ⟨⟨t359, t360⟩, A7, H⟩ := H
  replace H : ((selvagelaw10_changes.f l0_0).bind fun t363 => ((edits_Normal.f k t363 (l0_1.length : Int) (l0_2.length : Int)).bind fun bt366 => (if t360.isNone = true then (if bt366.2.isNone = true then (if (t359.length : Int) = (bt366.1.length : Int) then ((hunks_Order.f k t351).bind fun t372 => (if t372.isNone = true then (selvagelaw10_HunksAround.j0 k t351 t359 bt366.1 false l0_0 l0_1 l0_2 a0_3) else (selvagelaw10_HunksAround.j0 k t351 t359 bt366.1 true l0_0 l0_1 l0_2 a0_3))) else (selvagelaw10_HunksAround.j0 k t351 t359 bt366.1 true l0_0 l0_1 l0_2 a0_3)) else (selvagelaw10_HunksAround.j0 k t351 t359 bt366.1 true l0_0 l0_1 l0_2 a0_3)) else (selvagelaw10_HunksAround.j0 k t351 t359 bt366.1 true l0_0 l0_1 l0_2 a0_3)))) = some r := H
  replace H := bdS H
  obtain ⟨t363, A8, H⟩ := H
  replace H := bdS H
  obtain ⟨⟨t366, t367⟩, A9, H⟩ := H
  replace H : (if t360.isNone = true then (if t367.isNone = true then (if (t359.length : Int) = (t366.length : Int) then ((hunks_Order.f k t351).bind fun t372 => (if t372.isNone = true then (selvagelaw10_HunksAround.j0 k t351 t359 t366 false l0_0 l0_1 l0_2 a0_3) else (selvagelaw10_HunksAround.j0 k t351 t359 t366 true l0_0 l0_1 l0_2 a0_3))) else (selvagelaw10_HunksAround.j0 k t351 t359 t366 true l0_0 l0_1 l0_2 a0_3)) else (selvagelaw10_HunksAround.j0 k t351 t359 t366 true l0_0 l0_1 l0_2 a0_3)) else (selvagelaw10_HunksAround.j0 k t351 t359 t366 true l0_0 l0_1 l0_2 a0_3)) = some r := H
  have HC10 := Aside0.mk H
  clear H
  go_enter Tryd.func4, Tryd.ntmps4
  try simp only [List.append_eq, List.cons_append, List.nil_append]
  try go_wp2_with (first | ((with_reducible refine gate_dst (N := 1) rfl ?_); (try (refine gate_guard (by rfl) ?_; dsimp only)); refine boxEv (N := 1) #[.slice A0_0 l0_0.length c0_0, .slice A0_1 l0_1.length c0_1, .slice A0_2 l0_2.length c0_2, .int .i64 a0_3] 25 ?_; intro gb341 hg w11 hbox hb; have BK341 := Aside0.mk hbox; have GW341 := gwN HB hg; have GE341 := GW341; replace HB := hbD HB hb; clear hb hbox hg))
  replace BK341 := Aside0.mk (blk_drew BK341.out)
  replace HB := Aside0.mk (below_drew1 HB.out)
  refine start_ (n := 17) (S := fun w' => w'.cell? ⟨gb341, 0, none⟩ = some (.slice A0_0 l0_0.length c0_0) ∧ w'.cell? ⟨gb341, 1, none⟩ = some (.slice A0_1 l0_1.length c0_1) ∧ w'.cell? ⟨gb341, 2, none⟩ = some (.slice A0_2 l0_2.length c0_2) ∧ w'.cell? ⟨gb341, 3, none⟩ = some (.int .i64 a0_3)) (ds := []) #[false, false, false, false, false, false, false, false, false, false, false, false, false, false, false, false, false] (by kernel_rfl) rfl rfl ⟨bc BK341 0, bc BK341 1, bc BK341 2, bc BK341 3⟩ (fun hHeld => ?_); refine with_tabW selvagelaw10_HunksAround.tab1 selvagelaw10_HunksAround.bits1 (fun HT_ HW_ => ?_)
  generalize w11.drew = w12 at BK341 HB hHeld ⊢
  refine pureT 0 ?_
  refine pureT 3 ?_
  refine pureT 6 ?_
  refine pureT 9 ?_
  refine takeT 1 hHeld ?_
  refine takeT 4 hHeld ?_
  refine takeT 7 hHeld ?_
  refine takeT 10 hHeld ?_
  refine one_ (i := 2) (N := some 18) #[true, true, true, true, true, false, true, true, false, true, true, false, false, false, false, false, false] rfl rfl (one_of HT_.out (by kernel_rfl)) (by decide) (fun K hK => ?_)
  refine goes_ Tryd.func6 (by kernel_rfl) rfl #[.slice A0_0 l0_0.length c0_0] (by rfl) rfl rfl argsOk ?_
  with_reducible refine (selvagelaw10_changes.calls _ _ l0_0 t342 _ ?side1 ?side2 A2.out).mono ?_
  (case side1 => exact kcU HR0_0 HB)
  (case side2 => exact HC0_0.out)
  rintro e w13 ⟨v343, rfl, ho0, hb⟩
  refine ⟨_, rfl, ?_⟩
  have HO344 := Aside0.mk (Kd.R_lower ho0 (below_size (belPut)))
  replace BK341 := bkD BK341 hb
  replace HB := hbD HB hb
  (try clear hb)
  (try clear hb2)
  (try clear hk)
  (try clear hi)
  (try clear ho0)
  refine hK.out _ _ ⟨bc BK341 0, bc BK341 1, bc BK341 2, bc BK341 3⟩ (fun hHeld => ?_)
  clear hK K
  refine norm_ (a' := ?_) ?_ ?_
  rotate_left
  ·show Act.put _ (some 18) _ = _
   simp only [Act.put, List.setIfInBounds_toArray, List.set_cons_zero, List.set_cons_succ, i64_w, i32_w]
   rfl
  refine one_ (i := 5) (N := some 21) #[true, true, true, true, true, true, true, true, false, true, true, false, false, false, false, false, false] rfl rfl (one_of HT_.out (by kernel_rfl)) (by decide) (fun K hK => ?_)
  refine goes_ Tryd.func7 (by kernel_rfl) rfl #[.slice A0_1 l0_1.length c0_1] (by rfl) rfl rfl argsOk ?_
  with_reducible refine (selvagelaw10_texts.calls _ _ l0_1 t345 _ ?side1 ?side2 A3.out).mono ?_
  (case side1 => exact kcU HR0_1 HB)
  (case side2 => exact HC0_1.out)
  rintro e w14 ⟨v346, rfl, ho0, hb⟩
  refine ⟨_, rfl, ?_⟩
  replace HO344 := Aside0.mk (Kd.R_below (kdUp HO344.out) hb)
  have HO347 := Aside0.mk (Kd.R_lower ho0 (below_size (belPut)))
  replace BK341 := bkD BK341 hb
  replace HB := hbD HB hb
  (try clear hb)
  (try clear hb2)
  (try clear hk)
  (try clear hi)
  (try clear ho0)
  refine hK.out _ _ ⟨bc BK341 0, bc BK341 1, bc BK341 2, bc BK341 3⟩ (fun hHeld => ?_)
  clear hK K
  refine norm_ (a' := ?_) ?_ ?_
  rotate_left
  ·show Act.put _ (some 21) _ = _
   simp only [Act.put, List.setIfInBounds_toArray, List.set_cons_zero, List.set_cons_succ, i64_w, i32_w]
   rfl
  refine one_ (i := 8) (N := some 24) #[true, true, true, true, true, true, true, true, true, true, true, false, false, false, false, false, false] rfl rfl (one_of HT_.out (by kernel_rfl)) (by decide) (fun K hK => ?_)
  refine goes_ Tryd.func7 (by kernel_rfl) rfl #[.slice A0_2 l0_2.length c0_2] (by rfl) rfl rfl argsOk ?_
  with_reducible refine (selvagelaw10_texts.calls _ _ l0_2 t348 _ ?side1 ?side2 A4.out).mono ?_
  (case side1 => exact kcU HR0_2 HB)
  (case side2 => exact HC0_2.out)
  rintro e w15 ⟨v349, rfl, ho0, hb⟩
  refine ⟨_, rfl, ?_⟩
  replace HO344 := Aside0.mk (Kd.R_below (kdUp HO344.out) hb)
  have HO350 := Aside0.mk (Kd.R_lower (Kd.R_new' ho0 (Kd.R_lt (kdUp HO347.out))) (below_size (belPut)))
  replace HO347 := Aside0.mk (Kd.R_elder' (kdUp HO347.out) (Kd.R_base ho0) hb)
  replace BK341 := bkD BK341 hb
  replace HB := hbD HB hb
  (try clear hb)
  (try clear hb2)
  (try clear hk)
  (try clear hi)
  (try clear ho0)
  obtain ⟨Ao16, co16, eo16⟩ := Kd.R_slice HO344.out
  (first | subst eo16 | (injection eo16 with f1_ f2_ f3_; have f4_ := f1_.symm; have f5_ := f3_.symm; clear f1_ f2_ f3_; subst f4_; subst f5_))
  obtain ⟨Ao17, co17, eo17⟩ := Kd.R_slice HO347.out
  (first | subst eo17 | (injection eo17 with f1_ f2_ f3_; have f4_ := f1_.symm; have f5_ := f3_.symm; clear f1_ f2_ f3_; subst f4_; subst f5_))
  obtain ⟨Ao18, co18, eo18⟩ := Kd.R_slice HO350.out
  (first | subst eo18 | (injection eo18 with f1_ f2_ f3_; have f4_ := f1_.symm; have f5_ := f3_.symm; clear f1_ f2_ f3_; subst f4_; subst f5_))
  refine hK.out _ _ ⟨bc BK341 0, bc BK341 1, bc BK341 2, bc BK341 3⟩ (fun hHeld => ?_)
  clear hK K
  refine norm_ (a' := ?_) ?_ ?_
  rotate_left
  ·show Act.put _ (some 24) _ = _
   simp only [Act.put, List.setIfInBounds_toArray, List.set_cons_zero, List.set_cons_succ, i64_w, i32_w]
   rfl
  refine one_ (i := 11) (N := some 27) #[true, true, true, true, true, true, true, true, true, true, true, true, false, false, false, false, false] rfl rfl (one_of HT_.out (by kernel_rfl)) (by decide) (fun K hK => ?_)
  refine goes_ Tryd.func5 (by kernel_rfl) rfl #[.slice Ao16 t342.length co16, .slice Ao17 t345.length co17, .slice Ao18 t348.length co18, .int .i64 a0_3] (by rfl) rfl rfl argsOk ?_
  with_reducible refine (hunks_Build.calls k _ _ t342 _ _ t345 _ _ t348 a0_3 t351 none _ ?side1 ?side2 ?side3 ?side4 ?side5 ?side6 A5.out).mono ?_
  (case side1 => repeat (first | exact (Kd.R_reads' HO344.out).2.2 | (with_reducible refine Kd.C_alloc ?_ _) | (with_reducible refine Kd.C_drewN ?_ _) | (with_reducible refine Kd.C_drew ?_)))
  (case side2 => exact (Kd.R_reads' HO344.out).2.1)
  (case side3 => repeat (first | exact (Kd.R_reads' HO347.out).2.2 | (with_reducible refine Kd.C_alloc ?_ _) | (with_reducible refine Kd.C_drewN ?_ _) | (with_reducible refine Kd.C_drew ?_)))
  (case side4 => exact (Kd.R_reads' HO347.out).2.1)
  (case side5 => repeat (first | exact (Kd.R_reads' HO350.out).2.2 | (with_reducible refine Kd.C_alloc ?_ _) | (with_reducible refine Kd.C_drewN ?_ _) | (with_reducible refine Kd.C_drew ?_)))
  (case side6 => exact (Kd.R_reads' HO350.out).2.1)
  rintro e w19 ⟨v353, rfl, ho0, hb⟩
  refine ⟨_, rfl, ?_⟩
  replace HO344 := Aside0.mk (Kd.R_below (kdUp HO344.out) hb)
  replace HO347 := Aside0.mk (Kd.R_below (kdUp HO347.out) hb)
  replace HO350 := Aside0.mk (Kd.R_below (kdUp HO350.out) hb)
  have HO354 := Aside0.mk (Kd.S_lower ho0 (below_size (belPut)))
  replace BK341 := bkD BK341 hb
  replace HB := hbD HB hb
  (try clear hb)
  (try clear hb2)
  (try clear hk)
  (try clear hi)
  (try clear ho0)
  (try simp only [errW_none, errW_some])
  refine hK.out _ _ ⟨bc BK341 0, bc BK341 1, bc BK341 2, bc BK341 3⟩ (fun hHeld => ?_)
  clear hK K
  refine norm_ (a' := ?_) ?_ ?_
  rotate_left
  ·show Act.put _ (some 27) _ = _
   simp only [Act.put, List.setIfInBounds_toArray, List.set_cons_zero, List.set_cons_succ, i64_w, i32_w]
   rfl
  refine pureT 12 ?_
  refine pureT 13 ?_
  refine pureT 14 ?_
  refine pureT 15 ?_
  refine pureT 16 ?_
  refine done_ (done_of HT_.out (by kernel_rfl)) ?_
  try go_wp2
  replace HO344 := Aside0.mk (Kd.R_drew HO344.out)
  replace HO347 := Aside0.mk (Kd.R_drew HO347.out)
  replace HO350 := Aside0.mk (Kd.R_drew HO350.out)
  replace HO354 := Aside0.mk (Kd.S_drew HO354.out)
  replace BK341 := Aside0.mk (blk_drew BK341.out)
  replace HB := Aside0.mk (below_drew1 HB.out)
  obtain ⟨Ao21, co21, eo21⟩ := Kd.S_slice HO354.out
  (first | subst eo21 | (injection eo21 with f1_ f2_ f3_; have f4_ := f1_.symm; have f5_ := f3_.symm; clear f1_ f2_ f3_; subst f4_; subst f5_))
  refine start_ (n := 14) (S := fun w' => w'.cell? ⟨gb341, 0, none⟩ = some (.slice A0_0 l0_0.length c0_0) ∧ w'.cell? ⟨gb341, 1, none⟩ = some (.slice A0_1 l0_1.length c0_1) ∧ w'.cell? ⟨gb341, 2, none⟩ = some (.slice A0_2 l0_2.length c0_2) ∧ w'.cell? ⟨gb341, 3, none⟩ = some (.int .i64 a0_3)) (ds := []) #[false, false, false, false, false, false, false, false, false, false, false, false, false, false] (by kernel_rfl) rfl rfl ⟨bc BK341 0, bc BK341 1, bc BK341 2, bc BK341 3⟩ (fun hHeld => ?_); refine with_tabW selvagelaw10_HunksAround.tab4 selvagelaw10_HunksAround.bits4 (fun HT_ HW_ => ?_)
  generalize w19.drew = w20 at HO344 HO347 HO350 HO354 BK341 HB hHeld ⊢
  refine pureT 0 ?_
  refine pureT 2 ?_
  refine pureT 5 ?_
  refine takeT 3 hHeld ?_
  refine pureT 4 ?_
  refine takeT 6 hHeld ?_
  refine pureT 7 ?_
  refine one_ (i := 1) (N := some 40) #[true, true, true, true, true, true, true, true, false, false, false, false, false, false] rfl rfl (one_of HT_.out (by kernel_rfl)) (by decide) (fun K hK => ?_)
  refine goes_ Tryd.func16 (by kernel_rfl) rfl #[.slice Ao21 t351.length co21] (by rfl) rfl rfl argsOk ?_
  with_reducible refine (selvagelaw10_twins.calls k _ _ t351 t356 _ ?side1 ?side2 A6.out).mono ?_
  (case side1 => repeat (first | exact (Kd.S_reads' HO354.out).2.2 | (with_reducible refine Kd.C_alloc ?_ _) | (with_reducible refine Kd.C_drewN ?_ _) | (with_reducible refine Kd.C_drew ?_)))
  (case side2 => exact (Kd.S_reads' HO354.out).2.1)
  rintro e w22 ⟨v357, rfl, ho0, hb⟩
  refine ⟨_, rfl, ?_⟩
  replace HO344 := Aside0.mk (Kd.R_below (kdUp HO344.out) hb)
  replace HO347 := Aside0.mk (Kd.R_below (kdUp HO347.out) hb)
  replace HO350 := Aside0.mk (Kd.R_below (kdUp HO350.out) hb)
  have HO358 := Aside0.mk (Kd.S_lower (Kd.S_new' ho0 (Kd.S_lt (by (with_reducible repeat (first | apply Kd.S_alloc | apply Kd.S_drewN | apply Kd.S_drew)); exact HO354.out))) (below_size (belPut)))
  replace HO354 := Aside0.mk (Kd.S_elder' (by (with_reducible repeat (first | apply Kd.S_alloc | apply Kd.S_drewN | apply Kd.S_drew)); exact HO354.out) (Kd.S_base ho0) hb)
  replace BK341 := bkD BK341 hb
  replace HB := hbD HB hb
  (try clear hb)
  (try clear hb2)
  (try clear hk)
  (try clear hi)
  (try clear ho0)
  obtain ⟨Ao23, co23, eo23⟩ := Kd.S_slice HO358.out
  (first | subst eo23 | (injection eo23 with f1_ f2_ f3_; have f4_ := f1_.symm; have f5_ := f3_.symm; clear f1_ f2_ f3_; subst f4_; subst f5_))
  refine hK.out _ _ ⟨bc BK341 0, bc BK341 1, bc BK341 2, bc BK341 3⟩ (fun hHeld => ?_)
  clear hK K
  refine norm_ (a' := ?_) ?_ ?_
  rotate_left
  ·show Act.put _ (some 40) _ = _
   simp only [Act.put, List.setIfInBounds_toArray, List.set_cons_zero, List.set_cons_succ, i64_w, i32_w]
   rfl
  refine one_ (i := 8) (N := some 47) #[true, true, true, true, true, true, true, true, true, false, false, false, false, false] rfl rfl (one_of HT_.out (by kernel_rfl)) (by decide) (fun K hK => ?_)
  refine goes_ Tryd.func15 (by kernel_rfl) rfl #[.slice Ao23 t356.length co23, .int .i64 (l0_1.length : Int), .int .i64 (l0_2.length : Int)] (by rfl) rfl rfl argsOk ?_
  with_reducible refine (hunks_Script.calls k _ _ t356 (l0_1.length : Int) (l0_2.length : Int) t359 t360 _ ?side1 ?side2 A7.out).mono ?_
  (case side1 => repeat (first | exact (Kd.S_reads' HO358.out).2.2 | (with_reducible refine Kd.C_alloc ?_ _) | (with_reducible refine Kd.C_drewN ?_ _) | (with_reducible refine Kd.C_drew ?_)))
  (case side2 => exact (Kd.S_reads' HO358.out).2.1)
  rintro e w24 ⟨v361, rfl, ho0, hb⟩
  refine ⟨_, rfl, ?_⟩
  replace HO347 := Aside0.mk (Kd.R_below (kdUp HO347.out) hb)
  replace HO350 := Aside0.mk (Kd.R_below (kdUp HO350.out) hb)
  replace HO354 := Aside0.mk (Kd.S_below (by (with_reducible repeat (first | apply Kd.S_alloc | apply Kd.S_drewN | apply Kd.S_drew)); exact HO354.out) hb)
  replace HO358 := Aside0.mk (Kd.S_below (by (with_reducible repeat (first | apply Kd.S_alloc | apply Kd.S_drewN | apply Kd.S_drew)); exact HO358.out) hb)
  have HO362 := Aside0.mk (Kd.R_lower (Kd.R_new' ho0 (Kd.R_lt (kdUp HO344.out))) (below_size (belPut)))
  replace HO344 := Aside0.mk (Kd.R_elder' (kdUp HO344.out) (Kd.R_base ho0) hb)
  replace BK341 := bkD BK341 hb
  replace HB := hbD HB hb
  (try clear hb)
  (try clear hb2)
  (try clear hk)
  (try clear hi)
  (try clear ho0)
  (try simp only [errW_none, errW_some])
  refine hK.out _ _ ⟨bc BK341 0, bc BK341 1, bc BK341 2, bc BK341 3⟩ (fun hHeld => ?_)
  clear hK K
  refine norm_ (a' := ?_) ?_ ?_
  rotate_left
  ·show Act.put _ (some 47) _ = _
   simp only [Act.put, List.setIfInBounds_toArray, List.set_cons_zero, List.set_cons_succ, i64_w, i32_w]
   rfl
  refine pureT 9 ?_
  refine pureT 10 ?_
  refine pureT 11 ?_
  refine pureT 12 ?_
  refine pureT 13 ?_
  refine done_ (done_of HT_.out (by kernel_rfl)) ?_
  try go_wp2
  replace HO344 := Aside0.mk (Kd.R_drew HO344.out)
  replace HO347 := Aside0.mk (Kd.R_drew HO347.out)
  replace HO350 := Aside0.mk (Kd.R_drew HO350.out)
  replace HO354 := Aside0.mk (Kd.S_drew HO354.out)
  replace HO358 := Aside0.mk (Kd.S_drew HO358.out)
  replace HO362 := Aside0.mk (Kd.R_drew HO362.out)
  replace BK341 := Aside0.mk (blk_drew BK341.out)
  replace HB := Aside0.mk (below_drew1 HB.out)
  refine start_ (n := 15) (S := fun w' => w'.cell? ⟨gb341, 0, none⟩ = some (.slice A0_0 l0_0.length c0_0) ∧ w'.cell? ⟨gb341, 1, none⟩ = some (.slice A0_1 l0_1.length c0_1) ∧ w'.cell? ⟨gb341, 2, none⟩ = some (.slice A0_2 l0_2.length c0_2) ∧ w'.cell? ⟨gb341, 3, none⟩ = some (.int .i64 a0_3)) (ds := []) #[false, false, false, false, false, false, false, false, false, false, false, false, false, false, false] (by kernel_rfl) rfl rfl ⟨bc BK341 0, bc BK341 1, bc BK341 2, bc BK341 3⟩ (fun hHeld => ?_); refine with_tabW selvagelaw10_HunksAround.tab5 selvagelaw10_HunksAround.bits5 (fun HT_ HW_ => ?_)
  generalize w24.drew = w25 at HO344 HO347 HO350 HO354 HO358 HO362 BK341 HB hHeld ⊢
  refine pureT 0 ?_
  refine pureT 3 ?_
  refine pureT 6 ?_
  refine takeT 1 hHeld ?_
  refine takeT 4 hHeld ?_
  refine pureT 5 ?_
  refine takeT 7 hHeld ?_
  refine pureT 8 ?_
  refine one_ (i := 2) (N := some 53) #[true, true, true, true, true, true, true, true, true, false, false, false, false, false, false] rfl rfl (one_of HT_.out (by kernel_rfl)) (by decide) (fun K hK => ?_)
  refine goes_ Tryd.func6 (by kernel_rfl) rfl #[.slice A0_0 l0_0.length c0_0] (by rfl) rfl rfl argsOk ?_
  with_reducible refine (selvagelaw10_changes.calls _ _ l0_0 t363 _ ?side1 ?side2 A8.out).mono ?_
  (case side1 => exact kcU HR0_0 HB)
  (case side2 => exact HC0_0.out)
  rintro e w26 ⟨v364, rfl, ho0, hb⟩
  refine ⟨_, rfl, ?_⟩
  replace HO347 := Aside0.mk (Kd.R_below (kdUp HO347.out) hb)
  replace HO350 := Aside0.mk (Kd.R_below (kdUp HO350.out) hb)
  replace HO354 := Aside0.mk (Kd.S_below (by (with_reducible repeat (first | apply Kd.S_alloc | apply Kd.S_drewN | apply Kd.S_drew)); exact HO354.out) hb)
  replace HO358 := Aside0.mk (Kd.S_below (by (with_reducible repeat (first | apply Kd.S_alloc | apply Kd.S_drewN | apply Kd.S_drew)); exact HO358.out) hb)
  have HO365 := Aside0.mk (Kd.R_lower (Kd.R_new' (Kd.R_new' ho0 (Kd.R_lt (kdUp HO344.out))) (Kd.R_lt (kdUp HO362.out))) (below_size (belPut)))
  replace HO344 := Aside0.mk (Kd.R_elder' (kdUp HO344.out) (Kd.R_base ho0) hb)
  replace HO362 := Aside0.mk (Kd.R_elder' (kdUp HO362.out) (Kd.R_base ho0) hb)
  replace BK341 := bkD BK341 hb
  replace HB := hbD HB hb
  (try clear hb)
  (try clear hb2)
  (try clear hk)
  (try clear hi)
  (try clear ho0)
  obtain ⟨Ao27, co27, eo27⟩ := Kd.R_slice HO365.out
  (first | subst eo27 | (injection eo27 with f1_ f2_ f3_; have f4_ := f1_.symm; have f5_ := f3_.symm; clear f1_ f2_ f3_; subst f4_; subst f5_))
  refine hK.out _ _ ⟨bc BK341 0, bc BK341 1, bc BK341 2, bc BK341 3⟩ (fun hHeld => ?_)
  clear hK K
  refine norm_ (a' := ?_) ?_ ?_
  rotate_left
  ·show Act.put _ (some 53) _ = _
   simp only [Act.put, List.setIfInBounds_toArray, List.set_cons_zero, List.set_cons_succ, i64_w, i32_w]
   rfl
  refine one_ (i := 9) (N := some 60) #[true, true, true, true, true, true, true, true, true, true, false, false, false, false, false] rfl rfl (one_of HT_.out (by kernel_rfl)) (by decide) (fun K hK => ?_)
  refine goes_ Tryd.func17 (by kernel_rfl) rfl #[.slice Ao27 t363.length co27, .int .i64 (l0_1.length : Int), .int .i64 (l0_2.length : Int)] (by rfl) rfl rfl argsOk ?_
  with_reducible refine (edits_Normal.calls k _ _ t363 (l0_1.length : Int) (l0_2.length : Int) t366 t367 _ ?side1 ?side2 A9.out).mono ?_
  (case side1 => repeat (first | exact (Kd.R_reads' HO365.out).2.2 | (with_reducible refine Kd.C_alloc ?_ _) | (with_reducible refine Kd.C_drewN ?_ _) | (with_reducible refine Kd.C_drew ?_)))
  (case side2 => exact (Kd.R_reads' HO365.out).2.1)
  rintro e w28 ⟨v368, rfl, ho0, hb⟩
  refine ⟨_, rfl, ?_⟩
  replace HO347 := Aside0.mk (Kd.R_below (kdUp HO347.out) hb)
  replace HO350 := Aside0.mk (Kd.R_below (kdUp HO350.out) hb)
  replace HO354 := Aside0.mk (Kd.S_below (by (with_reducible repeat (first | apply Kd.S_alloc | apply Kd.S_drewN | apply Kd.S_drew)); exact HO354.out) hb)
  replace HO358 := Aside0.mk (Kd.S_below (by (with_reducible repeat (first | apply Kd.S_alloc | apply Kd.S_drewN | apply Kd.S_drew)); exact HO358.out) hb)
  have HO369 := Aside0.mk (Kd.R_lower (Kd.R_new' (Kd.R_new' (Kd.R_new' ho0 (Kd.R_lt (kdUp HO344.out))) (Kd.R_lt (kdUp HO362.out))) (Kd.R_lt (kdUp HO365.out))) (below_size (belPut)))
  replace HO344 := Aside0.mk (Kd.R_elder' (kdUp HO344.out) (Kd.R_base ho0) hb)
  replace HO362 := Aside0.mk (Kd.R_elder' (kdUp HO362.out) (Kd.R_base ho0) hb)
  replace HO365 := Aside0.mk (Kd.R_elder' (kdUp HO365.out) (Kd.R_base ho0) hb)
  replace BK341 := bkD BK341 hb
  replace HB := hbD HB hb
  (try clear hb)
  (try clear hb2)
  (try clear hk)
  (try clear hi)
  (try clear ho0)
  (try simp only [errW_none, errW_some])
  refine hK.out _ _ ⟨bc BK341 0, bc BK341 1, bc BK341 2, bc BK341 3⟩ (fun hHeld => ?_)
  clear hK K
  refine norm_ (a' := ?_) ?_ ?_
  rotate_left
  ·show Act.put _ (some 60) _ = _
   simp only [Act.put, List.setIfInBounds_toArray, List.set_cons_zero, List.set_cons_succ, i64_w, i32_w]
   rfl
  refine pureT 10 ?_
  refine pureT 11 ?_
  refine pureT 12 ?_
  refine pureT 13 ?_
  refine pureT 14 ?_
  refine done_ (done_of HT_.out (by kernel_rfl)) ?_
  go_upto_region 6 with (fail)
  go_cut [80] (fun v80 wc => ∃ (kq : Nat) (x80_9 : Bool), v80 = .bool x80_9 ∧ Aside0 (selvagelaw10_HunksAround.j0 kq t351 t359 t366 x80_9 l0_0 l0_1 l0_2 a0_3 = some r) ∧ Aside0 (kq ≤ k) ∧ Aside0 (Kd.S k41 41 wc w.heap.size (fun _ => True) (.slice Ao21 t351.length co21) t351) ∧ Aside0 (Kd.R k53 53 wc w.heap.size (fun k_ => some k_ ≠ (v368 : Value).ownBlock) v361 t359) ∧ Aside0 (Kd.R k53 53 wc w.heap.size (fun k_ => some k_ ≠ (v361 : Value).ownBlock) v368 t366) ∧ Aside0 (wc.heap[gb341]? = some (.cells #[(.slice A0_0 l0_0.length c0_0), (.slice A0_1 l0_1.length c0_1), (.slice A0_2 l0_2.length c0_2), .int .i64 a0_3] 25 (0, 0))) ∧ Aside0 (Below w.heap.size w wc))
  case first =>
   have H := HC10.out
   clear HC10
   rcases t360 with _ | q370
   ·have H1 : (if t367.isNone = true then (if (t359.length : Int) = (t366.length : Int) then ((hunks_Order.f k t351).bind fun t372 => (if t372.isNone = true then (selvagelaw10_HunksAround.j0 k t351 t359 t366 false l0_0 l0_1 l0_2 a0_3) else (selvagelaw10_HunksAround.j0 k t351 t359 t366 true l0_0 l0_1 l0_2 a0_3))) else (selvagelaw10_HunksAround.j0 k t351 t359 t366 true l0_0 l0_1 l0_2 a0_3)) else (selvagelaw10_HunksAround.j0 k t351 t359 t366 true l0_0 l0_1 l0_2 a0_3)) = some r := by rw [if_pos (show (none : Option Int).isNone = true by rfl)] at H; exact H
    clear H
    have H := H1
    clear H1
    try simp only [errW_none, errW_some]
    rcases t367 with _ | q371
    ·have H1 : (if (t359.length : Int) = (t366.length : Int) then ((hunks_Order.f k t351).bind fun t372 => (if t372.isNone = true then (selvagelaw10_HunksAround.j0 k t351 t359 t366 false l0_0 l0_1 l0_2 a0_3) else (selvagelaw10_HunksAround.j0 k t351 t359 t366 true l0_0 l0_1 l0_2 a0_3))) else (selvagelaw10_HunksAround.j0 k t351 t359 t366 true l0_0 l0_1 l0_2 a0_3)) = some r := by rw [if_pos (show (none : Option Int).isNone = true by rfl)] at H; exact H
     clear H
     have H := H1
     clear H1
     try simp only [errW_none, errW_some]
     replace H := itEn H
     rcases H with ⟨c29, c29b0, c29b1, H⟩ | ⟨c29, c29b0, c29b1, H⟩
     ·have c29b2 : (t359.length == t366.length) = false := by first | simpa using c29 | (simp at c29 ⊢; omega)
      (first | rw [c29b0] | (simp only [i64_w, i32_w]; rw [c29b0]) | skip)
      have H' := Aside0.mk H
      clear H
      obtain ⟨Ao37, co37, eo37⟩ := Kd.R_slice HO362.out
      subst eo37
      obtain ⟨Ao38, co38, eo38⟩ := Kd.R_slice HO369.out
      subst eo38
      go_wp2
      go_meet
      case rel => exact ⟨_, (true), eqNow, H', ⟨by first | omega | exact Nat.le_refl _⟩, ⟨by (with_reducible repeat (first | apply Kd.S_alloc | apply Kd.S_drewN | apply Kd.S_drew)); exact Kd.S_mono HO354.out (fun _ hk => trivial)⟩, ⟨by (with_reducible repeat (first | apply Kd.R_alloc | apply Kd.R_drewN | apply Kd.R_drew)); exact Kd.R_mono HO362.out (fun _ hk => hk.2)⟩, ⟨by (with_reducible repeat (first | apply Kd.R_alloc | apply Kd.R_drewN | apply Kd.R_drew)); exact Kd.R_mono HO369.out (fun _ hk => hk.1.2)⟩, ⟨bkUp BK341.out⟩, ⟨belPut⟩⟩
     have c29b2 : (t359.length == t366.length) = true := by first | simpa using c29 | (simp at c29 ⊢; omega)
     clear c29
     (first | rw [c29b0] | (simp only [i64_w, i32_w]; rw [c29b0]) | skip)
     replace H := bdS H
     obtain ⟨t372, A30, H⟩ := H
     rcases t372 with _ | q373
     ·have H1 : (selvagelaw10_HunksAround.j0 k t351 t359 t366 false l0_0 l0_1 l0_2 a0_3) = some r := by rw [if_pos (show (none : Option Int).isNone = true by rfl)] at H; exact H
      clear H
      have H := H1
      clear H1
      try simp only [errW_none, errW_some]
      have H' := Aside0.mk H
      clear H
      obtain ⟨Ao31, co31, eo31⟩ := Kd.R_slice HO362.out
      subst eo31
      obtain ⟨Ao32, co32, eo32⟩ := Kd.R_slice HO369.out
      subst eo32
      go_wp2_with (first | (go_at_call 18; (with_reducible refine (hunks_Order.calls k _ _ t351 none _ ?side1 ?side2 A30.out).mono ?_); (case side1 => repeat (first | exact (Kd.S_reads' HO354.out).2.2 | (with_reducible refine Kd.C_alloc ?_ _) | (with_reducible refine Kd.C_drewN ?_ _) | (with_reducible refine Kd.C_drew ?_))); (case side2 => exact (Kd.S_reads' HO354.out).2.1); rintro e w33 ⟨rfl, hb⟩; replace HO344 := Aside0.mk (Kd.R_below (kdUp HO344.out) hb); replace HO347 := Aside0.mk (Kd.R_below (kdUp HO347.out) hb); replace HO350 := Aside0.mk (Kd.R_below (kdUp HO350.out) hb); replace HO354 := Aside0.mk (Kd.S_below (by (with_reducible repeat (first | apply Kd.S_alloc | apply Kd.S_drewN | apply Kd.S_drew)); exact HO354.out) hb); replace HO358 := Aside0.mk (Kd.S_below (by (with_reducible repeat (first | apply Kd.S_alloc | apply Kd.S_drewN | apply Kd.S_drew)); exact HO358.out) hb); replace HO362 := Aside0.mk (Kd.R_below (kdUp HO362.out) hb); replace HO365 := Aside0.mk (Kd.R_below (kdUp HO365.out) hb); replace HO369 := Aside0.mk (Kd.R_below (kdUp HO369.out) hb); replace BK341 := bkD BK341 hb; replace HB := hbD HB hb; clear hb; (try simp only [errW_none, errW_some])))
      go_meet
      case rel => exact ⟨_, (false), eqNow, H', ⟨by first | omega | exact Nat.le_refl _⟩, ⟨by (with_reducible repeat (first | apply Kd.S_alloc | apply Kd.S_drewN | apply Kd.S_drew)); exact Kd.S_mono HO354.out (fun _ hk => trivial)⟩, ⟨by (with_reducible repeat (first | apply Kd.R_alloc | apply Kd.R_drewN | apply Kd.R_drew)); exact Kd.R_mono HO362.out (fun _ hk => hk.2)⟩, ⟨by (with_reducible repeat (first | apply Kd.R_alloc | apply Kd.R_drewN | apply Kd.R_drew)); exact Kd.R_mono HO369.out (fun _ hk => hk.1.2)⟩, ⟨bkUp BK341.out⟩, ⟨belPut⟩⟩
     have H1 : (selvagelaw10_HunksAround.j0 k t351 t359 t366 true l0_0 l0_1 l0_2 a0_3) = some r := by rw [if_neg (show ¬ (some q373).isNone = true by simp)] at H; exact H
     clear H
     have H := H1
     clear H1
     try simp only [errW_none, errW_some]
     have H' := Aside0.mk H
     clear H
     obtain ⟨Ao34, co34, eo34⟩ := Kd.R_slice HO362.out
     subst eo34
     obtain ⟨Ao35, co35, eo35⟩ := Kd.R_slice HO369.out
     subst eo35
     go_wp2_with (first | (go_at_call 18; (with_reducible refine (hunks_Order.calls k _ _ t351 (some q373) _ ?side1 ?side2 A30.out).mono ?_); (case side1 => repeat (first | exact (Kd.S_reads' HO354.out).2.2 | (with_reducible refine Kd.C_alloc ?_ _) | (with_reducible refine Kd.C_drewN ?_ _) | (with_reducible refine Kd.C_drew ?_))); (case side2 => exact (Kd.S_reads' HO354.out).2.1); rintro e w36 ⟨rfl, hb⟩; replace HO344 := Aside0.mk (Kd.R_below (kdUp HO344.out) hb); replace HO347 := Aside0.mk (Kd.R_below (kdUp HO347.out) hb); replace HO350 := Aside0.mk (Kd.R_below (kdUp HO350.out) hb); replace HO354 := Aside0.mk (Kd.S_below (by (with_reducible repeat (first | apply Kd.S_alloc | apply Kd.S_drewN | apply Kd.S_drew)); exact HO354.out) hb); replace HO358 := Aside0.mk (Kd.S_below (by (with_reducible repeat (first | apply Kd.S_alloc | apply Kd.S_drewN | apply Kd.S_drew)); exact HO358.out) hb); replace HO362 := Aside0.mk (Kd.R_below (kdUp HO362.out) hb); replace HO365 := Aside0.mk (Kd.R_below (kdUp HO365.out) hb); replace HO369 := Aside0.mk (Kd.R_below (kdUp HO369.out) hb); replace BK341 := bkD BK341 hb; replace HB := hbD HB hb; clear hb; (try simp only [errW_none, errW_some])))
     go_meet
     case rel => exact ⟨_, (true), eqNow, H', ⟨by first | omega | exact Nat.le_refl _⟩, ⟨by (with_reducible repeat (first | apply Kd.S_alloc | apply Kd.S_drewN | apply Kd.S_drew)); exact Kd.S_mono HO354.out (fun _ hk => trivial)⟩, ⟨by (with_reducible repeat (first | apply Kd.R_alloc | apply Kd.R_drewN | apply Kd.R_drew)); exact Kd.R_mono HO362.out (fun _ hk => hk.2)⟩, ⟨by (with_reducible repeat (first | apply Kd.R_alloc | apply Kd.R_drewN | apply Kd.R_drew)); exact Kd.R_mono HO369.out (fun _ hk => hk.1.2)⟩, ⟨bkUp BK341.out⟩, ⟨belPut⟩⟩
    have H1 : (selvagelaw10_HunksAround.j0 k t351 t359 t366 true l0_0 l0_1 l0_2 a0_3) = some r := by rw [if_neg (show ¬ (some q371).isNone = true by simp)] at H; exact H
    clear H
    have H := H1
    clear H1
    try simp only [errW_none, errW_some]
    have H' := Aside0.mk H
    clear H
    go_wp2
    go_meet
    case rel => exact ⟨_, (true), eqNow, H', ⟨by first | omega | exact Nat.le_refl _⟩, ⟨by (with_reducible repeat (first | apply Kd.S_alloc | apply Kd.S_drewN | apply Kd.S_drew)); exact Kd.S_mono HO354.out (fun _ hk => trivial)⟩, ⟨by (with_reducible repeat (first | apply Kd.R_alloc | apply Kd.R_drewN | apply Kd.R_drew)); exact Kd.R_mono HO362.out (fun _ hk => hk.2)⟩, ⟨by (with_reducible repeat (first | apply Kd.R_alloc | apply Kd.R_drewN | apply Kd.R_drew)); exact Kd.R_mono HO369.out (fun _ hk => hk.1.2)⟩, ⟨bkUp BK341.out⟩, ⟨belPut⟩⟩
   have H1 : (selvagelaw10_HunksAround.j0 k t351 t359 t366 true l0_0 l0_1 l0_2 a0_3) = some r := by rw [if_neg (show ¬ (some q370).isNone = true by simp)] at H; exact H
   clear H
   have H := H1
   clear H1
   try simp only [errW_none, errW_some]
   have H' := Aside0.mk H
   clear H
   go_wp2
   go_meet
   case rel => exact ⟨_, (true), eqNow, H', ⟨by first | omega | exact Nat.le_refl _⟩, ⟨by (with_reducible repeat (first | apply Kd.S_alloc | apply Kd.S_drewN | apply Kd.S_drew)); exact Kd.S_mono HO354.out (fun _ hk => trivial)⟩, ⟨by (with_reducible repeat (first | apply Kd.R_alloc | apply Kd.R_drewN | apply Kd.R_drew)); exact Kd.R_mono HO362.out (fun _ hk => hk.2)⟩, ⟨by (with_reducible repeat (first | apply Kd.R_alloc | apply Kd.R_drewN | apply Kd.R_drew)); exact Kd.R_mono HO369.out (fun _ hk => hk.1.2)⟩, ⟨bkUp BK341.out⟩, ⟨belPut⟩⟩
  case rest =>
   clear HC10
   obtain ⟨kq, x80_9, rfl, HA, HJ9, HO_3, HO_5, HO_7, BK341, HB⟩ := hcut
   cases kq with
   | zero => exact absurd HA.out (by simp [selvagelaw10_HunksAround.j0])
   | succ kj9 =>
    have H := HA.out
    clear HA
    simp only [selvagelaw10_HunksAround.j0] at H
    replace H := itB H
    rcases H with ⟨rfl, H⟩ | ⟨rfl, H⟩
    ·obtain rfl := Option.some.inj H
     go_wp2
     go_ret
     exact ⟨eqEnd, belPut⟩
    have H' := Aside0.mk H
    clear H
    go_wp2
    go_loopg [9] kj9 (fun kq v9 w' => ∃ (x9_2 : Int), v9 = .int .i64 x9_2 ∧ Aside0 (selvagelaw10_HunksAround.l0 kq t351 t359 t366 x9_2 l0_0 l0_1 l0_2 a0_3 = some r) ∧ Aside0 (kq ≤ kj9) ∧ Aside0 (Kd.S k41 41 w' w.heap.size (fun _ => True) (.slice Ao21 t351.length co21) t351) ∧ Aside0 (Kd.R k53 53 w' w.heap.size (fun k_ => some k_ ≠ (v368 : Value).ownBlock) v361 t359) ∧ Aside0 (Kd.R k53 53 w' w.heap.size (fun k_ => some k_ ≠ (v361 : Value).ownBlock) v368 t366) ∧ Aside0 (w'.heap[gb341]? = some (.cells #[(.slice A0_0 l0_0.length c0_0), (.slice A0_1 l0_1.length c0_1), (.slice A0_2 l0_2.length c0_2), .int .i64 a0_3] 25 (0, 0))) ∧ Aside0 (Below w.heap.size w w'))
    case atStart => exact ⟨(0), eqNow, H', ⟨Nat.le_refl _⟩, ⟨kdMv HO_3⟩, ⟨kdMv HO_5⟩, ⟨kdMv HO_7⟩, ⟨bkUp BK341.out⟩, ⟨belPut⟩⟩
    case round =>
     clear H'
     try clear c39
     obtain ⟨x9_2, rfl, HA, HK2, HO_3, HO_5, HO_7, BK341, HB⟩ := hrel
     cases gk with
     | zero => exact absurd HA.out (by simp [selvagelaw10_HunksAround.l0])
     | succ k2 =>
      have H := HA.out
      clear HA
      simp only [selvagelaw10_HunksAround.l0] at H
      replace H := itL H
      rcases H with ⟨-, c40b0, H⟩ | ⟨-, c40b0, H⟩
      ·replace H := itLn H
       rcases H with ⟨_, _, H⟩ | ⟨-, c41b0, H⟩
       ·cases H
       replace H := itLn H
       rcases H with ⟨_, _, H⟩ | ⟨-, c42b0, H⟩
       ·cases H
       replace H := itE H
       rcases H with ⟨c43, -, -, H⟩ | ⟨c43, -, -, H⟩
       ·have c43b0 : (!(((rd_T53 t359 x9_2).f0) == ((rd_T53 t366 x9_2).f0)) || (!(((rd_T53 t359 x9_2).f1) == ((rd_T53 t366 x9_2).f1)) || (!(((rd_T53 t359 x9_2).f2) == ((rd_T53 t366 x9_2).f2)) || (!(((rd_T53 t359 x9_2).f3) == ((rd_T53 t366 x9_2).f3)))))) = true := c43
        clear c43
        obtain rfl := Option.some.inj H
        obtain ⟨Ao44, co44, eo44⟩ := Kd.R_slice HO_5.out
        subst eo44
        try go_wp2
        replace HO_3 := Aside0.mk (Kd.S_drew HO_3.out)
        replace HO_5 := Aside0.mk (Kd.R_drew HO_5.out)
        replace HO_7 := Aside0.mk (Kd.R_drew HO_7.out)
        replace BK341 := Aside0.mk (blk_drew BK341.out)
        replace HB := Aside0.mk (below_drew1 HB.out)
        have p374 : 0 ≤ (x9_2 : Int) := ofDec
        have q374 : x9_2 < (t359.length : Int) := ofDec
        obtain ⟨ad374, e374, hx374_0, hx374_1, hx374_2, hx374_3⟩ := at_T53 (Kd.R_reads' HO_5.out).2.2 x9_2 p374 q374
        cases e374
        replace p374 := eq_true p374
        replace q374 := eq_true q374
        obtain ⟨Ao46, co46, eo46⟩ := Kd.R_slice HO_7.out
        (first | subst eo46 | (injection eo46 with f1_ f2_ f3_; have f4_ := f1_.symm; have f5_ := f3_.symm; clear f1_ f2_ f3_; subst f4_; subst f5_))
        have p375 : 0 ≤ (x9_2 : Int) := ofDec
        have q375 : x9_2 < (t366.length : Int) := ofDec
        obtain ⟨ad375, e375, hx375_0, hx375_1, hx375_2, hx375_3⟩ := at_T53 (Kd.R_reads' HO_7.out).2.2 x9_2 p375 q375
        cases e375
        replace p375 := eq_true p375
        replace q375 := eq_true q375
        refine start_ (n := 9) (S := fun w' => w'.cell? (ad374.add ((x9_2).toNat * 4)) = some (.int .i64 ((rd_T53 t359 x9_2).f0)) ∧ w'.cell? ⟨(ad374.add ((x9_2).toNat * 4)).block, (ad374.add ((x9_2).toNat * 4)).off + 1, none⟩ = some (.int .i64 ((rd_T53 t359 x9_2).f1)) ∧ w'.cell? ⟨(ad374.add ((x9_2).toNat * 4)).block, (ad374.add ((x9_2).toNat * 4)).off + 2, none⟩ = some (.int .i64 ((rd_T53 t359 x9_2).f2)) ∧ w'.cell? ⟨(ad374.add ((x9_2).toNat * 4)).block, (ad374.add ((x9_2).toNat * 4)).off + 3, none⟩ = some (.int .i64 ((rd_T53 t359 x9_2).f3)) ∧ w'.cell? (ad375.add ((x9_2).toNat * 4)) = some (.int .i64 ((rd_T53 t366 x9_2).f0)) ∧ w'.cell? ⟨(ad375.add ((x9_2).toNat * 4)).block, (ad375.add ((x9_2).toNat * 4)).off + 1, none⟩ = some (.int .i64 ((rd_T53 t366 x9_2).f1)) ∧ w'.cell? ⟨(ad375.add ((x9_2).toNat * 4)).block, (ad375.add ((x9_2).toNat * 4)).off + 2, none⟩ = some (.int .i64 ((rd_T53 t366 x9_2).f2)) ∧ w'.cell? ⟨(ad375.add ((x9_2).toNat * 4)).block, (ad375.add ((x9_2).toNat * 4)).off + 3, none⟩ = some (.int .i64 ((rd_T53 t366 x9_2).f3))) (ds := []) #[false, false, false, false, false, false, false, false, false] (by kernel_rfl) rfl rfl ⟨hx374_0, hx374_1, hx374_2, hx374_3, hx375_0, hx375_1, hx375_2, hx375_3⟩ (fun hHeld => ?_); refine with_tabW selvagelaw10_HunksAround.tab11 selvagelaw10_HunksAround.bits11 (fun HT_ HW_ => ?_)
        generalize wr.drew = w45 at HO_3 HO_5 HO_7 BK341 HB hx374_0 hx374_1 hx374_2 hx374_3 hx375_0 hx375_1 hx375_2 hx375_3 hHeld ⊢
        refine pureT 0 ?_
        refine pureT 1 ?_
        refine pureT 2 ?_
        refine pureT 4 ?_
        refine pureT 5 ?_
        refine pureT 6 ?_
        refine takeT 3 hHeld ?_
        refine takeT 7 hHeld ?_
        refine pureT 8 ?_
        refine done_ (done_of HT_.out (by kernel_rfl)) ?_
        try go_wp2
        go_ret
        exact ⟨eqEnd, belPut⟩
       have c43b0 : (!(((rd_T53 t359 x9_2).f0) == ((rd_T53 t366 x9_2).f0)) || (!(((rd_T53 t359 x9_2).f1) == ((rd_T53 t366 x9_2).f1)) || (!(((rd_T53 t359 x9_2).f2) == ((rd_T53 t366 x9_2).f2)) || (!(((rd_T53 t359 x9_2).f3) == ((rd_T53 t366 x9_2).f3)))))) = false := by simpa using c43
       clear c43
       have H' := Aside0.mk H
       clear H
       obtain ⟨Ao47, co47, eo47⟩ := Kd.R_slice HO_5.out
       subst eo47
       try go_wp2
       replace HO_3 := Aside0.mk (Kd.S_drew HO_3.out)
       replace HO_5 := Aside0.mk (Kd.R_drew HO_5.out)
       replace HO_7 := Aside0.mk (Kd.R_drew HO_7.out)
       replace BK341 := Aside0.mk (blk_drew BK341.out)
       replace HB := Aside0.mk (below_drew1 HB.out)
       have p374 : 0 ≤ (x9_2 : Int) := ofDec
       have q374 : x9_2 < (t359.length : Int) := ofDec
       obtain ⟨ad374, e374, hx374_0, hx374_1, hx374_2, hx374_3⟩ := at_T53 (Kd.R_reads' HO_5.out).2.2 x9_2 p374 q374
       cases e374
       replace p374 := eq_true p374
       replace q374 := eq_true q374
       obtain ⟨Ao49, co49, eo49⟩ := Kd.R_slice HO_7.out
       (first | subst eo49 | (injection eo49 with f1_ f2_ f3_; have f4_ := f1_.symm; have f5_ := f3_.symm; clear f1_ f2_ f3_; subst f4_; subst f5_))
       have p375 : 0 ≤ (x9_2 : Int) := ofDec
       have q375 : x9_2 < (t366.length : Int) := ofDec
       obtain ⟨ad375, e375, hx375_0, hx375_1, hx375_2, hx375_3⟩ := at_T53 (Kd.R_reads' HO_7.out).2.2 x9_2 p375 q375
       cases e375
       replace p375 := eq_true p375
       replace q375 := eq_true q375
       refine start_ (n := 9) (S := fun w' => w'.cell? (ad374.add ((x9_2).toNat * 4)) = some (.int .i64 ((rd_T53 t359 x9_2).f0)) ∧ w'.cell? ⟨(ad374.add ((x9_2).toNat * 4)).block, (ad374.add ((x9_2).toNat * 4)).off + 1, none⟩ = some (.int .i64 ((rd_T53 t359 x9_2).f1)) ∧ w'.cell? ⟨(ad374.add ((x9_2).toNat * 4)).block, (ad374.add ((x9_2).toNat * 4)).off + 2, none⟩ = some (.int .i64 ((rd_T53 t359 x9_2).f2)) ∧ w'.cell? ⟨(ad374.add ((x9_2).toNat * 4)).block, (ad374.add ((x9_2).toNat * 4)).off + 3, none⟩ = some (.int .i64 ((rd_T53 t359 x9_2).f3)) ∧ w'.cell? (ad375.add ((x9_2).toNat * 4)) = some (.int .i64 ((rd_T53 t366 x9_2).f0)) ∧ w'.cell? ⟨(ad375.add ((x9_2).toNat * 4)).block, (ad375.add ((x9_2).toNat * 4)).off + 1, none⟩ = some (.int .i64 ((rd_T53 t366 x9_2).f1)) ∧ w'.cell? ⟨(ad375.add ((x9_2).toNat * 4)).block, (ad375.add ((x9_2).toNat * 4)).off + 2, none⟩ = some (.int .i64 ((rd_T53 t366 x9_2).f2)) ∧ w'.cell? ⟨(ad375.add ((x9_2).toNat * 4)).block, (ad375.add ((x9_2).toNat * 4)).off + 3, none⟩ = some (.int .i64 ((rd_T53 t366 x9_2).f3))) (ds := []) #[false, false, false, false, false, false, false, false, false] (by kernel_rfl) rfl rfl ⟨hx374_0, hx374_1, hx374_2, hx374_3, hx375_0, hx375_1, hx375_2, hx375_3⟩ (fun hHeld => ?_); refine with_tabW selvagelaw10_HunksAround.tab11 selvagelaw10_HunksAround.bits11 (fun HT_ HW_ => ?_)
       generalize wr.drew = w48 at HO_3 HO_5 HO_7 BK341 HB hx374_0 hx374_1 hx374_2 hx374_3 hx375_0 hx375_1 hx375_2 hx375_3 hHeld ⊢
       refine pureT 0 ?_
       refine pureT 1 ?_
       refine pureT 2 ?_
       refine pureT 4 ?_
       refine pureT 5 ?_
       refine pureT 6 ?_
       refine takeT 3 hHeld ?_
       refine takeT 7 hHeld ?_
       refine pureT 8 ?_
       refine done_ (done_of HT_.out (by kernel_rfl)) ?_
       try go_wp2
       go_roundg k2
       case measure => have := HJ9.out; have := HK2.out; omega
       case rel => exact ⟨(wrap64 (x9_2 + 1)), eqNow, H', ⟨by have := HJ9.out; have := HK2.out; omega⟩, ⟨kdMv HO_3⟩, ⟨kdMv HO_5⟩, ⟨kdMv HO_7⟩, ⟨bkUp BK341.out⟩, ⟨belPut⟩⟩
      have H' := Aside0.mk H
      clear H
      obtain ⟨Ao50, co50, eo50⟩ := Kd.R_slice HO_5.out
      subst eo50
      go_wp2
      go_loopg [10] k2 (fun kq v10 w' => ∃ (x10_3 : Int), v10 = .int .i64 x10_3 ∧ Aside0 (selvagelaw10_HunksAround.l1 kq t351 x10_3 l0_0 l0_1 l0_2 a0_3 = some r) ∧ Aside0 (kq ≤ k2) ∧ Aside0 (Kd.S k41 41 w' w.heap.size (fun _ => True) (.slice Ao21 t351.length co21) t351) ∧ Aside0 (w'.heap[gb341]? = some (.cells #[(.slice A0_0 l0_0.length c0_0), (.slice A0_1 l0_1.length c0_1), (.slice A0_2 l0_2.length c0_2), .int .i64 a0_3] 25 (0, 0))) ∧ Aside0 (Below w.heap.size w w'))
      case atStart => exact ⟨(0), eqNow, H', ⟨Nat.le_refl _⟩, ⟨kdMv HO_3⟩, ⟨bkUp BK341.out⟩, ⟨belPut⟩⟩
      case round =>
       clear H'
       try clear c39
       try clear c40
       try clear c40b0
       obtain ⟨x10_3, rfl, HA, HK3, HO_3, BK341, HB⟩ := hrel
       cases gk with
       | zero => exact absurd HA.out (by simp [selvagelaw10_HunksAround.l1])
       | succ k3 =>
        have H := HA.out
        clear HA
        simp only [selvagelaw10_HunksAround.l1] at H
        replace H := itLn H
        rcases H with ⟨-, c51b0, H⟩ | ⟨-, c51b0, H⟩
        ·replace H := itL H
         rcases H with ⟨-, c72b0, H⟩ | ⟨-, c72b0, H⟩
         ·replace H := bdS H
          obtain ⟨t376, A73, H⟩ := H
          obtain rfl := Option.some.inj H
          have hcz74_0 := bkc (v := .slice A0_0 l0_0.length c0_0) BK341.out 0 rfl
          have hcz74_1 := bkc (v := .slice A0_1 l0_1.length c0_1) BK341.out 1 rfl
          have hcz74_2 := bkc (v := .slice A0_2 l0_2.length c0_2) BK341.out 2 rfl
          have hcz74_3 := bkc (v := .int .i64 a0_3) BK341.out 3 rfl
          have hfz74_0 := blk_frozen BK341.out 0
          have hfz74_1 := blk_frozen BK341.out 1
          have hfz74_2 := blk_frozen BK341.out 2
          have hfz74_3 := blk_frozen BK341.out 3
          go_wp2_with (first | (go_at_call 8; (with_reducible refine (selvagelaw10_works.calls k3  t376 _ ?side1 A73.out).mono ?_); (case side1 => exact Glob.below hGL (belPut)); rintro e w75 ⟨rfl, hb⟩; replace HO_3 := Aside0.mk (Kd.S_below (by (with_reducible repeat (first | apply Kd.S_alloc | apply Kd.S_drewN | apply Kd.S_drew)); exact HO_3.out) hb); replace BK341 := bkD BK341 hb; replace HB := hbD HB hb; clear hb))
          go_ret
          exact ⟨eqEnd, belPut⟩
         replace H := itLn H
         rcases H with ⟨c76, c76b0, H⟩ | ⟨c76, c76b0, H⟩
         ·have c76b1 : decide (t351.length < 2) = false := decide_eq_false (by omega)
          clear c76
          obtain rfl := Option.some.inj H
          have hcz80_0 := bkc (v := .slice A0_0 l0_0.length c0_0) BK341.out 0 rfl
          have hcz80_1 := bkc (v := .slice A0_1 l0_1.length c0_1) BK341.out 1 rfl
          have hcz80_2 := bkc (v := .slice A0_2 l0_2.length c0_2) BK341.out 2 rfl
          have hcz80_3 := bkc (v := .int .i64 a0_3) BK341.out 3 rfl
          have hfz80_0 := blk_frozen BK341.out 0
          have hfz80_1 := blk_frozen BK341.out 1
          have hfz80_2 := blk_frozen BK341.out 2
          have hfz80_3 := blk_frozen BK341.out 3
          go_wp2
          go_ret
          exact ⟨eqEnd, belPut⟩
         have c76b1 : decide (t351.length < 2) = true := decide_eq_true (by omega)
         clear c76
         replace H := bdS H
         obtain ⟨t377, A77, H⟩ := H
         obtain rfl := Option.some.inj H
         have hcz78_0 := bkc (v := .slice A0_0 l0_0.length c0_0) BK341.out 0 rfl
         have hcz78_1 := bkc (v := .slice A0_1 l0_1.length c0_1) BK341.out 1 rfl
         have hcz78_2 := bkc (v := .slice A0_2 l0_2.length c0_2) BK341.out 2 rfl
         have hcz78_3 := bkc (v := .int .i64 a0_3) BK341.out 3 rfl
         have hfz78_0 := blk_frozen BK341.out 0
         have hfz78_1 := blk_frozen BK341.out 1
         have hfz78_2 := blk_frozen BK341.out 2
         have hfz78_3 := blk_frozen BK341.out 3
         go_wp2_with (first | (go_at_call 8; (with_reducible refine (selvagelaw10_works.calls k3  t377 _ ?side1 A77.out).mono ?_); (case side1 => exact Glob.below hGL (belPut)); rintro e w79 ⟨rfl, hb⟩; replace HO_3 := Aside0.mk (Kd.S_below (by (with_reducible repeat (first | apply Kd.S_alloc | apply Kd.S_drewN | apply Kd.S_drew)); exact HO_3.out) hb); replace BK341 := bkD BK341 hb; replace HB := hbD HB hb; clear hb))
         go_ret
         exact ⟨eqEnd, belPut⟩
        replace H := itLn H
        rcases H with ⟨_, _, H⟩ | ⟨-, c52b0, H⟩
        ·cases H
        replace H := bdS H
        obtain ⟨⟨t379, t382⟩, A53, H⟩ := H
        replace H : (if ((rd_T41 t351 x10_3).f1) > 0 then (selvagelaw10_HunksAround.j3 k3 t351 x10_3 t379 (wrap64 (((rd_T41 t351 x10_3).f0) - 1)) l0_0 l0_1 l0_2 a0_3) else (selvagelaw10_HunksAround.j3 k3 t351 x10_3 t379 ((rd_T41 t351 x10_3).f0) l0_0 l0_1 l0_2 a0_3)) = some r := H
        have HC54 := Aside0.mk H
        clear H
        have p378 : 0 ≤ (x10_3 : Int) := ofDec
        have q378 : x10_3 < (t351.length : Int) := ofDec
        obtain ⟨ad378, A378_5, c378_5, e378, hx378_0, hx378_1, hx378_2, hx378_3, hx378_4, hx378_5, hl378_5, hi378_5⟩ := at_T41 (Kd.S_reads' HO_3.out).2.2 x10_3 p378 q378
        cases e378
        obtain ⟨ce378, hce378, hMe378, hcc378⟩ := Kd.S_get HO_3.out z41 x10_3 p378 (by first | exact q378 | exact ofDec | (have e_ := (Kd.S_reads' HO_3.out).1; omega))
        obtain ⟨ve378_5, rfl, ge378_5⟩ := k41_openM hMe378
        have hv378_5 := hcc378 5 _ rfl
        rw [add_field _ _ 5 (by omega)] at hv378_5
        replace hv378_5 := Option.some.inj (hv378_5.symm.trans hx378_5)
        rw [hv378_5] at ge378_5
        have HL378_5 := Aside0.mk (show Kd.R k56 56 _ _ _ _ ((rd_T41 t351 x10_3).f5) from ge378_5)
        clear hv378_5 ge378_5
        clear hcc378 hce378
        have HR378_5 := Aside0.mk hi378_5
        have HC378_5 := Aside0.mk hl378_5
        clear hi378_5 hl378_5
        replace p378 := eq_true p378
        replace q378 := eq_true q378
        go_upto_if 120 with (first | ((with_reducible refine gate_callee (f := 13) rfl ?_); refine goL (some 107) Tryd.func13 #[.agg #[.int .i64 ((rd_T41 t351 x10_3).f0), .int .i64 ((rd_T41 t351 x10_3).f1), .int .i64 ((rd_T41 t351 x10_3).f2), .int .i64 ((rd_T41 t351 x10_3).f3), .string ((rd_T41 t351 x10_3).f4), .slice A378_5 ((rd_T41 t351 x10_3).f5).length c378_5]] ?_; (with_reducible refine (hunks_Sides.calls k3 ((rd_T41 t351 x10_3).f0) ((rd_T41 t351 x10_3).f1) ((rd_T41 t351 x10_3).f2) ((rd_T41 t351 x10_3).f3) ((rd_T41 t351 x10_3).f4) _ _ ((rd_T41 t351 x10_3).f5) t379 t382 _ ?side1 ?side2 A53.out).mono ?_); (case side1 => repeat (first | exact (by repeat (first | (with_reducible exact HR378_5.out) | (with_reducible refine Kd.C_alloc ?_ _) | (with_reducible refine Kd.C_drewN ?_ _) | (with_reducible refine Kd.C_drew ?_) | exact HR378_5.out)) | (with_reducible refine Kd.C_alloc ?_ _) | (with_reducible refine Kd.C_drewN ?_ _) | (with_reducible refine Kd.C_drew ?_))); (case side2 => exact HC378_5.out); rintro e w55 ⟨v380, v383, rfl, ho0, ho1, hb⟩; refine ⟨_, rfl, ?_⟩; replace HO_3 := Aside0.mk (Kd.S_below (by (with_reducible repeat (first | apply Kd.S_alloc | apply Kd.S_drewN | apply Kd.S_drew)); exact HO_3.out) hb); replace HL378_5 := Aside0.mk (Kd.R_below (by (with_reducible repeat (first | apply Kd.R_alloc | apply Kd.R_drewN | apply Kd.R_drew)); exact HL378_5.out) hb); have HO381 := Aside0.mk (Kd.R_lower ho0 (below_size (belPut))); have HO384 := Aside0.mk (Kd.R_lower ho1 (below_size (belPut))); replace BK341 := bkD BK341 hb; replace HR378_5 := Aside0.mk (Kd.C_below (by repeat (first | (with_reducible exact HR378_5.out) | (with_reducible refine Kd.C_alloc ?_ _) | (with_reducible refine Kd.C_drewN ?_ _) | (with_reducible refine Kd.C_drew ?_) | exact HR378_5.out)) hb); replace HB := hbD HB hb; clear hb; (try clear ho0); (try clear ho1); have p385 : 0 ≤ (x10_3 : Int) := ofDec; have q385 : x10_3 < (t351.length : Int) := ofDec; obtain ⟨ad385, A385_5, c385_5, e385, hx385_0, hx385_1, hx385_2, hx385_3, hx385_4, hx385_5, hl385_5, hi385_5⟩ := at_T41 (Kd.S_reads' HO_3.out).2.2 x10_3 p385 q385; obtain rfl : ad378 = ad385 := (by injection e385); obtain ⟨ce385, hce385, hMe385, hcc385⟩ := Kd.S_get HO_3.out z41 x10_3 p385 (by first | exact q385 | exact ofDec | (have e_ := (Kd.S_reads' HO_3.out).1; omega)); obtain ⟨ve385_5, rfl, ge385_5⟩ := k41_openM hMe385; have hv385_5 := hcc385 5 _ rfl; rw [add_field _ _ 5 (by omega)] at hv385_5; replace hv385_5 := Option.some.inj (hv385_5.symm.trans hx385_5); rw [hv385_5] at ge385_5; have HL385_5 := Aside0.mk (show Kd.R k56 56 _ _ _ _ ((rd_T41 t351 x10_3).f5) from ge385_5); clear hv385_5 ge385_5; clear hcc385 hce385; have HR385_5 := Aside0.mk hi385_5; have HC385_5 := Aside0.mk hl385_5; clear hi385_5 hl385_5; replace p385 := eq_true p385; replace q385 := eq_true q385; have p386 : 0 ≤ (x10_3 : Int) := ofDec; have q386 : x10_3 < (t351.length : Int) := ofDec; obtain ⟨ad386, A386_5, c386_5, e386, hx386_0, hx386_1, hx386_2, hx386_3, hx386_4, hx386_5, hl386_5, hi386_5⟩ := at_T41 (Kd.S_reads' HO_3.out).2.2 x10_3 p386 q386; obtain rfl : ad378 = ad386 := (by injection e386); obtain ⟨ce386, hce386, hMe386, hcc386⟩ := Kd.S_get HO_3.out z41 x10_3 p386 (by first | exact q386 | exact ofDec | (have e_ := (Kd.S_reads' HO_3.out).1; omega)); obtain ⟨ve386_5, rfl, ge386_5⟩ := k41_openM hMe386; have hv386_5 := hcc386 5 _ rfl; rw [add_field _ _ 5 (by omega)] at hv386_5; replace hv386_5 := Option.some.inj (hv386_5.symm.trans hx386_5); rw [hv386_5] at ge386_5; have HL386_5 := Aside0.mk (show Kd.R k56 56 _ _ _ _ ((rd_T41 t351 x10_3).f5) from ge386_5); clear hv386_5 ge386_5; clear hcc386 hce386; have HR386_5 := Aside0.mk hi386_5; have HC386_5 := Aside0.mk hl386_5; clear hi386_5 hl386_5; replace p386 := eq_true p386; replace q386 := eq_true q386; have ea_ := Option.some.inj (hx385_5.symm.trans hx386_5); injection ea_ with ea_ en_ ec_; subst ea_; subst ec_; clear en_))
        (try simp only [Act.put, List.setIfInBounds_toArray, List.set_cons_zero, List.set_cons_succ])
        go_cut [13] (fun v13 wc => ∃ (kq : Nat) (x13_53 : Int), v13 = .int .i64 x13_53 ∧ Aside0 (selvagelaw10_HunksAround.j3 kq t351 x10_3 t379 x13_53 l0_0 l0_1 l0_2 a0_3 = some r) ∧ Aside0 (kq ≤ k3) ∧ Aside0 (Kd.S k41 41 wc w.heap.size (fun _ => True) (.slice (some ad378) t351.length co21) t351) ∧ Aside0 (Kd.R Kd.string 9 wc w.heap.size (fun _ => True) v380 t379) ∧ Aside0 (wc.heap[gb341]? = some (.cells #[(.slice A0_0 l0_0.length c0_0), (.slice A0_1 l0_1.length c0_1), (.slice A0_2 l0_2.length c0_2), .int .i64 a0_3] 25 (0, 0))) ∧ Aside0 (Kd.C k56 wc A378_5 ((rd_T41 t351 x10_3).f5).length ((rd_T41 t351 x10_3).f5)) ∧ Aside0 (Kd.C k56 wc A385_5 ((rd_T41 t351 x10_3).f5).length ((rd_T41 t351 x10_3).f5)) ∧ Aside0 (Kd.C k56 wc A385_5 ((rd_T41 t351 x10_3).f5).length ((rd_T41 t351 x10_3).f5)) ∧ Aside0 (Below w.heap.size w wc))
        case first =>
         have H := HC54.out
         clear HC54
         replace H := itGn H
         rcases H with ⟨-, c56b0, H⟩ | ⟨-, c56b0, H⟩
         ·(first | rw [c56b0] | (simp only [i64_w, i32_w]; rw [c56b0]) | skip)
          have H' := Aside0.mk H
          clear H
          go_wp2
          go_meet
          case rel => exact ⟨_, ((rd_T41 t351 x10_3).f0), eqNow, H', ⟨by have := HJ9.out; have := HK2.out; have := HK3.out; first | omega | exact Nat.le_refl _⟩, ⟨kdMv HO_3⟩, ⟨by (with_reducible repeat (first | apply Kd.R_alloc | apply Kd.R_drewN | apply Kd.R_drew)); exact Kd.R_mono HO381.out (fun _ hk => trivial)⟩, ⟨bkUp BK341.out⟩, ⟨by repeat (first | (with_reducible exact HR378_5.out) | (with_reducible refine Kd.C_alloc ?_ _) | (with_reducible refine Kd.C_drewN ?_ _) | (with_reducible refine Kd.C_drew ?_) | exact HR378_5.out)⟩, ⟨by repeat (first | (with_reducible exact HR385_5.out) | (with_reducible refine Kd.C_alloc ?_ _) | (with_reducible refine Kd.C_drewN ?_ _) | (with_reducible refine Kd.C_drew ?_) | exact HR385_5.out)⟩, ⟨by repeat (first | (with_reducible exact HR386_5.out) | (with_reducible refine Kd.C_alloc ?_ _) | (with_reducible refine Kd.C_drewN ?_ _) | (with_reducible refine Kd.C_drew ?_) | exact HR386_5.out)⟩, ⟨belPut⟩⟩
         (first | rw [c56b0] | (simp only [i64_w, i32_w]; rw [c56b0]) | skip)
         have H' := Aside0.mk H
         clear H
         go_wp2
         go_meet
         case rel => exact ⟨_, (wrap64 (((rd_T41 t351 x10_3).f0) - 1)), eqNow, H', ⟨by have := HJ9.out; have := HK2.out; have := HK3.out; first | omega | exact Nat.le_refl _⟩, ⟨kdMv HO_3⟩, ⟨by (with_reducible repeat (first | apply Kd.R_alloc | apply Kd.R_drewN | apply Kd.R_drew)); exact Kd.R_mono HO381.out (fun _ hk => trivial)⟩, ⟨bkUp BK341.out⟩, ⟨by repeat (first | (with_reducible exact HR378_5.out) | (with_reducible refine Kd.C_alloc ?_ _) | (with_reducible refine Kd.C_drewN ?_ _) | (with_reducible refine Kd.C_drew ?_) | exact HR378_5.out)⟩, ⟨by repeat (first | (with_reducible exact HR385_5.out) | (with_reducible refine Kd.C_alloc ?_ _) | (with_reducible refine Kd.C_drewN ?_ _) | (with_reducible refine Kd.C_drew ?_) | exact HR385_5.out)⟩, ⟨by repeat (first | (with_reducible exact HR386_5.out) | (with_reducible refine Kd.C_alloc ?_ _) | (with_reducible refine Kd.C_drewN ?_ _) | (with_reducible refine Kd.C_drew ?_) | exact HR386_5.out)⟩, ⟨belPut⟩⟩
        case rest =>
         clear HC54
         try clear c39
         try clear c40
         try clear c40b0
         try clear c51
         try clear c51b0
         try clear c52
         try clear c52b0
         try clear hx378_0
         try clear hx378_1
         try clear hx378_2
         try clear hx378_3
         try clear hx378_4
         try clear hx378_5
         try clear hx385_0
         try clear hx385_1
         try clear hx385_2
         try clear hx385_3
         try clear hx385_4
         try clear hx385_5
         try clear hx386_0
         try clear hx386_1
         try clear hx386_2
         try clear hx386_3
         try clear hx386_4
         try clear hx386_5
         try clear p378
         try clear p385
         try clear p386
         try clear q378
         try clear q385
         try clear q386
         obtain ⟨kq, x13_53, rfl, HA, HJ53, HO_3, HO_11, BK341, HR378_5, HR385_5, HR386_5, HB⟩ := hcut
         cases kq with
         | zero => exact absurd HA.out (by simp [selvagelaw10_HunksAround.j3])
         | succ kj53 =>
          have H := HA.out
          clear HA
          simp only [selvagelaw10_HunksAround.j3] at H
          replace H := bdS H
          obtain ⟨t387, A57, H⟩ := H
          replace H := itBn H
          rcases H with ⟨rfl, H⟩ | ⟨rfl, H⟩
          ·obtain rfl := Option.some.inj H
           have hcz70_0 := bkc (v := .slice A0_0 l0_0.length c0_0) BK341.out 0 rfl
           have hcz70_1 := bkc (v := .slice A0_1 l0_1.length c0_1) BK341.out 1 rfl
           have hcz70_2 := bkc (v := .slice A0_2 l0_2.length c0_2) BK341.out 2 rfl
           have hcz70_3 := bkc (v := .int .i64 a0_3) BK341.out 3 rfl
           have hfz70_0 := blk_frozen BK341.out 0
           have hfz70_1 := blk_frozen BK341.out 1
           have hfz70_2 := blk_frozen BK341.out 2
           have hfz70_3 := blk_frozen BK341.out 3
           obtain ⟨Ao71, co71, eo71⟩ := Kd.R_slice HO_11.out
           subst eo71
           go_wp2_with (first | ((with_reducible refine gate_callee (f := 19) rfl ?_); refine goL (some 127) Tryd.func19 #[.slice Ao71 t379.length co71, .int .i64 x13_53, .slice A0_1 l0_1.length c0_1] ?_; (with_reducible refine (selvagelaw10_at.calls kj53 _ _ t379 x13_53 _ _ l0_1 false _ ?side1 ?side2 ?side3 ?side4 A57.out).mono ?_); (case side1 => repeat (first | exact (Kd.R_reads' HO_11.out).2.2 | (with_reducible refine Kd.C_alloc ?_ _) | (with_reducible refine Kd.C_drewN ?_ _) | (with_reducible refine Kd.C_drew ?_))); (case side2 => exact (Kd.R_reads' HO_11.out).2.1); (case side3 => exact kcU HR0_1 HB); (case side4 => exact HC0_1.out); rintro e w' ⟨rfl, ⟨nd, rfl⟩⟩; refine ⟨_, rfl, ?_⟩))
           go_ret
           exact ⟨eqEnd, belPut⟩
          have H' := Aside0.mk H
          clear H
          have hcz59_0 := bkc (v := .slice A0_0 l0_0.length c0_0) BK341.out 0 rfl
          have hcz59_1 := bkc (v := .slice A0_1 l0_1.length c0_1) BK341.out 1 rfl
          have hcz59_2 := bkc (v := .slice A0_2 l0_2.length c0_2) BK341.out 2 rfl
          have hcz59_3 := bkc (v := .int .i64 a0_3) BK341.out 3 rfl
          have hfz59_0 := blk_frozen BK341.out 0
          have hfz59_1 := blk_frozen BK341.out 1
          have hfz59_2 := blk_frozen BK341.out 2
          have hfz59_3 := blk_frozen BK341.out 3
          obtain ⟨Ao60, co60, eo60⟩ := Kd.R_slice HO_11.out
          subst eo60
          go_wp2_with (first | ((with_reducible refine gate_callee (f := 19) rfl ?_); refine goL (some 127) Tryd.func19 #[.slice Ao60 t379.length co60, .int .i64 x13_53, .slice A0_1 l0_1.length c0_1] ?_; (with_reducible refine (selvagelaw10_at.calls kj53 _ _ t379 x13_53 _ _ l0_1 true _ ?side1 ?side2 ?side3 ?side4 A57.out).mono ?_); (case side1 => repeat (first | exact (Kd.R_reads' HO_11.out).2.2 | (with_reducible refine Kd.C_alloc ?_ _) | (with_reducible refine Kd.C_drewN ?_ _) | (with_reducible refine Kd.C_drew ?_))); (case side2 => exact (Kd.R_reads' HO_11.out).2.1); (case side3 => exact kcU HR0_1 HB); (case side4 => exact HC0_1.out); rintro e w' ⟨rfl, ⟨nd, rfl⟩⟩; refine ⟨_, rfl, ?_⟩))
          go_loopg [14] kj53 (fun kq v14 w' => ∃ (x14_5 : Int), v14 = .int .i64 x14_5 ∧ Aside0 (selvagelaw10_HunksAround.l2 kq t351 x10_3 x14_5 l0_0 l0_1 l0_2 a0_3 = some r) ∧ Aside0 (kq ≤ kj53) ∧ Aside0 (Kd.S k41 41 w' w.heap.size (fun _ => True) (.slice (some ad378) t351.length co21) t351) ∧ Aside0 (w'.heap[gb341]? = some (.cells #[(.slice A0_0 l0_0.length c0_0), (.slice A0_1 l0_1.length c0_1), (.slice A0_2 l0_2.length c0_2), .int .i64 a0_3] 25 (0, 0))) ∧ Aside0 (Kd.C k56 w' A378_5 ((rd_T41 t351 x10_3).f5).length ((rd_T41 t351 x10_3).f5)) ∧ Aside0 (Kd.C k56 w' A385_5 ((rd_T41 t351 x10_3).f5).length ((rd_T41 t351 x10_3).f5)) ∧ Aside0 (Kd.C k56 w' A385_5 ((rd_T41 t351 x10_3).f5).length ((rd_T41 t351 x10_3).f5)) ∧ Aside0 (Below w.heap.size w w'))
          case atStart => exact ⟨(0), eqNow, H', ⟨Nat.le_refl _⟩, ⟨kdMv HO_3⟩, ⟨bkUp BK341.out⟩, ⟨by repeat (first | (with_reducible exact HR378_5.out) | (with_reducible refine Kd.C_alloc ?_ _) | (with_reducible refine Kd.C_drewN ?_ _) | (with_reducible refine Kd.C_drew ?_) | exact HR378_5.out)⟩, ⟨by repeat (first | (with_reducible exact HR385_5.out) | (with_reducible refine Kd.C_alloc ?_ _) | (with_reducible refine Kd.C_drewN ?_ _) | (with_reducible refine Kd.C_drew ?_) | exact HR385_5.out)⟩, ⟨by repeat (first | (with_reducible exact HR386_5.out) | (with_reducible refine Kd.C_alloc ?_ _) | (with_reducible refine Kd.C_drewN ?_ _) | (with_reducible refine Kd.C_drew ?_) | exact HR386_5.out)⟩, ⟨belPut⟩⟩
          case round =>
           clear H'
           try clear c39
           try clear c40
           try clear c40b0
           try clear c51
           try clear c51b0
           try clear c52
           try clear c52b0
           try clear c58
           try clear hcz59_0 hcz59_1 hcz59_2 hcz59_3 hfz59_0 hfz59_1 hfz59_2 hfz59_3
           try clear hx378_0
           try clear hx378_1
           try clear hx378_2
           try clear hx378_3
           try clear hx378_4
           try clear hx378_5
           try clear hx385_0
           try clear hx385_1
           try clear hx385_2
           try clear hx385_3
           try clear hx385_4
           try clear hx385_5
           try clear hx386_0
           try clear hx386_1
           try clear hx386_2
           try clear hx386_3
           try clear hx386_4
           try clear hx386_5
           try clear p378
           try clear p385
           try clear p386
           try clear q378
           try clear q385
           try clear q386
           obtain ⟨x14_5, rfl, HA, HK5, HO_3, BK341, HR378_5, HR385_5, HR386_5, HB⟩ := hrel
           cases gk with
           | zero => exact absurd HA.out (by simp [selvagelaw10_HunksAround.l2])
           | succ k5 =>
            have H := HA.out
            clear HA
            simp only [selvagelaw10_HunksAround.l2] at H
            replace H := itLn H
            rcases H with ⟨_, _, H⟩ | ⟨-, c61b0, H⟩
            ·cases H
            replace H := itLn H
            rcases H with ⟨_, _, H⟩ | ⟨-, c62b0, H⟩
            ·cases H
            replace H := itLn H
            rcases H with ⟨-, c63b0, H⟩ | ⟨-, c63b0, H⟩
            ·have H' := Aside0.mk H
             clear H
             have p388 : 0 ≤ (x10_3 : Int) := ofDec
             have q388 : x10_3 < (t351.length : Int) := ofDec
             obtain ⟨ad388, A388_5, c388_5, e388, hx388_0, hx388_1, hx388_2, hx388_3, hx388_4, hx388_5, hl388_5, hi388_5⟩ := at_T41 (Kd.S_reads' HO_3.out).2.2 x10_3 p388 q388
             obtain rfl : ad378 = ad388 := (by injection e388)
             obtain ⟨ce388, hce388, hMe388, hcc388⟩ := Kd.S_get HO_3.out z41 x10_3 p388 (by first | exact q388 | exact ofDec | (have e_ := (Kd.S_reads' HO_3.out).1; omega))
             obtain ⟨ve388_5, rfl, ge388_5⟩ := k41_openM hMe388
             have hv388_5 := hcc388 5 _ rfl
             rw [add_field _ _ 5 (by omega)] at hv388_5
             replace hv388_5 := Option.some.inj (hv388_5.symm.trans hx388_5)
             rw [hv388_5] at ge388_5
             have HL388_5 := Aside0.mk (show Kd.R k56 56 _ _ _ _ ((rd_T41 t351 x10_3).f5) from ge388_5)
             clear hv388_5 ge388_5
             clear hcc388 hce388
             have HR388_5 := Aside0.mk hi388_5
             have HC388_5 := Aside0.mk hl388_5
             clear hi388_5 hl388_5
             replace p388 := eq_true p388
             replace q388 := eq_true q388
             go_wp2
             go_roundg k5
             case measure => have := HJ9.out; have := HK2.out; have := HK3.out; have := HJ53.out; have := HK5.out; omega
             case rel => exact ⟨(wrap64 (x10_3 + 1)), eqNow, H', ⟨by have := HJ9.out; have := HK2.out; have := HK3.out; have := HJ53.out; have := HK5.out; omega⟩, ⟨kdMv HO_3⟩, ⟨bkUp BK341.out⟩, ⟨belPut⟩⟩
            replace H := itEn H
            rcases H with ⟨c64, c64b0, c64b1, H⟩ | ⟨-, c64b0, c64b1, H⟩
            ·have H' := Aside0.mk H
             clear H
             have p388 : 0 ≤ (x10_3 : Int) := ofDec
             have q388 : x10_3 < (t351.length : Int) := ofDec
             obtain ⟨ad388, A388_5, c388_5, e388, hx388_0, hx388_1, hx388_2, hx388_3, hx388_4, hx388_5, hl388_5, hi388_5⟩ := at_T41 (Kd.S_reads' HO_3.out).2.2 x10_3 p388 q388
             obtain rfl : ad378 = ad388 := (by injection e388)
             obtain ⟨ce388, hce388, hMe388, hcc388⟩ := Kd.S_get HO_3.out z41 x10_3 p388 (by first | exact q388 | exact ofDec | (have e_ := (Kd.S_reads' HO_3.out).1; omega))
             obtain ⟨ve388_5, rfl, ge388_5⟩ := k41_openM hMe388
             have hv388_5 := hcc388 5 _ rfl
             rw [add_field _ _ 5 (by omega)] at hv388_5
             replace hv388_5 := Option.some.inj (hv388_5.symm.trans hx388_5)
             rw [hv388_5] at ge388_5
             have HL388_5 := Aside0.mk (show Kd.R k56 56 _ _ _ _ ((rd_T41 t351 x10_3).f5) from ge388_5)
             clear hv388_5 ge388_5
             clear hcc388 hce388
             have HR388_5 := Aside0.mk hi388_5
             have HC388_5 := Aside0.mk hl388_5
             clear hi388_5 hl388_5
             replace p388 := eq_true p388
             replace q388 := eq_true q388
             have hcz69_0 := bkc (v := .slice A0_0 l0_0.length c0_0) BK341.out 0 rfl
             have hcz69_1 := bkc (v := .slice A0_1 l0_1.length c0_1) BK341.out 1 rfl
             have hcz69_2 := bkc (v := .slice A0_2 l0_2.length c0_2) BK341.out 2 rfl
             have hcz69_3 := bkc (v := .int .i64 a0_3) BK341.out 3 rfl
             have hfz69_0 := blk_frozen BK341.out 0
             have hfz69_1 := blk_frozen BK341.out 1
             have hfz69_2 := blk_frozen BK341.out 2
             have hfz69_3 := blk_frozen BK341.out 3
             go_wp2
             go_roundg k5
             case measure => have := HJ9.out; have := HK2.out; have := HK3.out; have := HJ53.out; have := HK5.out; omega
             case rel => exact ⟨(wrap64 (x14_5 + 1)), eqNow, H', ⟨by have := HJ9.out; have := HK2.out; have := HK3.out; have := HJ53.out; have := HK5.out; omega⟩, ⟨kdMv HO_3⟩, ⟨bkUp BK341.out⟩, ⟨by repeat (first | (with_reducible exact HR378_5.out) | (with_reducible refine Kd.C_alloc ?_ _) | (with_reducible refine Kd.C_drewN ?_ _) | (with_reducible refine Kd.C_drew ?_) | exact HR378_5.out)⟩, ⟨by repeat (first | (with_reducible exact HR385_5.out) | (with_reducible refine Kd.C_alloc ?_ _) | (with_reducible refine Kd.C_drewN ?_ _) | (with_reducible refine Kd.C_drew ?_) | exact HR385_5.out)⟩, ⟨by repeat (first | (with_reducible exact HR386_5.out) | (with_reducible refine Kd.C_alloc ?_ _) | (with_reducible refine Kd.C_drewN ?_ _) | (with_reducible refine Kd.C_drew ?_) | exact HR386_5.out)⟩, ⟨belPut⟩⟩
            replace H := itLn H
            rcases H with ⟨_, _, H⟩ | ⟨-, c65b0, H⟩
            ·cases H
            replace H := itE H
            rcases H with ⟨-, c66b0, c66b1, H⟩ | ⟨c66, c66b0, c66b1, H⟩
            ·obtain rfl := Option.some.inj H
             have p388 : 0 ≤ (x10_3 : Int) := ofDec
             have q388 : x10_3 < (t351.length : Int) := ofDec
             obtain ⟨ad388, A388_5, c388_5, e388, hx388_0, hx388_1, hx388_2, hx388_3, hx388_4, hx388_5, hl388_5, hi388_5⟩ := at_T41 (Kd.S_reads' HO_3.out).2.2 x10_3 p388 q388
             obtain rfl : ad378 = ad388 := (by injection e388)
             obtain ⟨ce388, hce388, hMe388, hcc388⟩ := Kd.S_get HO_3.out z41 x10_3 p388 (by first | exact q388 | exact ofDec | (have e_ := (Kd.S_reads' HO_3.out).1; omega))
             obtain ⟨ve388_5, rfl, ge388_5⟩ := k41_openM hMe388
             have hv388_5 := hcc388 5 _ rfl
             rw [add_field _ _ 5 (by omega)] at hv388_5
             replace hv388_5 := Option.some.inj (hv388_5.symm.trans hx388_5)
             rw [hv388_5] at ge388_5
             have HL388_5 := Aside0.mk (show Kd.R k56 56 _ _ _ _ ((rd_T41 t351 x10_3).f5) from ge388_5)
             clear hv388_5 ge388_5
             clear hcc388 hce388
             have HR388_5 := Aside0.mk hi388_5
             have HC388_5 := Aside0.mk hl388_5
             clear hi388_5 hl388_5
             replace p388 := eq_true p388
             replace q388 := eq_true q388
             have hcz67_0 := bkc (v := .slice A0_0 l0_0.length c0_0) BK341.out 0 rfl
             have hcz67_1 := bkc (v := .slice A0_1 l0_1.length c0_1) BK341.out 1 rfl
             have hcz67_2 := bkc (v := .slice A0_2 l0_2.length c0_2) BK341.out 2 rfl
             have hcz67_3 := bkc (v := .int .i64 a0_3) BK341.out 3 rfl
             have hfz67_0 := blk_frozen BK341.out 0
             have hfz67_1 := blk_frozen BK341.out 1
             have hfz67_2 := blk_frozen BK341.out 2
             have hfz67_3 := blk_frozen BK341.out 3
             have p389 : 0 ≤ (x10_3 : Int) := ofDec
             have q389 : x10_3 < (t351.length : Int) := ofDec
             obtain ⟨ad389, A389_5, c389_5, e389, hx389_0, hx389_1, hx389_2, hx389_3, hx389_4, hx389_5, hl389_5, hi389_5⟩ := at_T41 (Kd.S_reads' HO_3.out).2.2 x10_3 p389 q389
             obtain rfl : ad378 = ad389 := (by injection e389)
             obtain ⟨ce389, hce389, hMe389, hcc389⟩ := Kd.S_get HO_3.out z41 x10_3 p389 (by first | exact q389 | exact ofDec | (have e_ := (Kd.S_reads' HO_3.out).1; omega))
             obtain ⟨ve389_5, rfl, ge389_5⟩ := k41_openM hMe389
             have hv389_5 := hcc389 5 _ rfl
             rw [add_field _ _ 5 (by omega)] at hv389_5
             replace hv389_5 := Option.some.inj (hv389_5.symm.trans hx389_5)
             rw [hv389_5] at ge389_5
             have HL389_5 := Aside0.mk (show Kd.R k56 56 _ _ _ _ ((rd_T41 t351 x10_3).f5) from ge389_5)
             clear hv389_5 ge389_5
             clear hcc389 hce389
             have HR389_5 := Aside0.mk hi389_5
             have HC389_5 := Aside0.mk hl389_5
             clear hi389_5 hl389_5
             replace p389 := eq_true p389
             replace q389 := eq_true q389
             have ea_ := Option.some.inj (hx388_5.symm.trans hx389_5)
             injection ea_ with ea_ en_ ec_
             subst ea_
             subst ec_
             clear en_
             have p390 : 0 ≤ (x14_5 : Int) := ofDec
             have q390 : x14_5 < (((rd_T41 t351 x10_3).f5).length : Int) := ofDec
             obtain ⟨ad390, e390, hx390_0, hx390_1⟩ := at_T56 (by repeat (first | (with_reducible exact HR389_5.out) | (with_reducible refine Kd.C_alloc ?_ _) | (with_reducible refine Kd.C_drewN ?_ _) | (with_reducible refine Kd.C_drew ?_) | exact HR389_5.out)) x14_5 p390 q390
             cases e390
             replace p390 := eq_true p390
             replace q390 := eq_true q390
             go_wp2
             go_ret
             exact ⟨eqEnd, belPut⟩
            have H' := Aside0.mk H
            clear H
            have p388 : 0 ≤ (x10_3 : Int) := ofDec
            have q388 : x10_3 < (t351.length : Int) := ofDec
            obtain ⟨ad388, A388_5, c388_5, e388, hx388_0, hx388_1, hx388_2, hx388_3, hx388_4, hx388_5, hl388_5, hi388_5⟩ := at_T41 (Kd.S_reads' HO_3.out).2.2 x10_3 p388 q388
            obtain rfl : ad378 = ad388 := (by injection e388)
            obtain ⟨ce388, hce388, hMe388, hcc388⟩ := Kd.S_get HO_3.out z41 x10_3 p388 (by first | exact q388 | exact ofDec | (have e_ := (Kd.S_reads' HO_3.out).1; omega))
            obtain ⟨ve388_5, rfl, ge388_5⟩ := k41_openM hMe388
            have hv388_5 := hcc388 5 _ rfl
            rw [add_field _ _ 5 (by omega)] at hv388_5
            replace hv388_5 := Option.some.inj (hv388_5.symm.trans hx388_5)
            rw [hv388_5] at ge388_5
            have HL388_5 := Aside0.mk (show Kd.R k56 56 _ _ _ _ ((rd_T41 t351 x10_3).f5) from ge388_5)
            clear hv388_5 ge388_5
            clear hcc388 hce388
            have HR388_5 := Aside0.mk hi388_5
            have HC388_5 := Aside0.mk hl388_5
            clear hi388_5 hl388_5
            replace p388 := eq_true p388
            replace q388 := eq_true q388
            have hcz68_0 := bkc (v := .slice A0_0 l0_0.length c0_0) BK341.out 0 rfl
            have hcz68_1 := bkc (v := .slice A0_1 l0_1.length c0_1) BK341.out 1 rfl
            have hcz68_2 := bkc (v := .slice A0_2 l0_2.length c0_2) BK341.out 2 rfl
            have hcz68_3 := bkc (v := .int .i64 a0_3) BK341.out 3 rfl
            have hfz68_0 := blk_frozen BK341.out 0
            have hfz68_1 := blk_frozen BK341.out 1
            have hfz68_2 := blk_frozen BK341.out 2
            have hfz68_3 := blk_frozen BK341.out 3
            have p389 : 0 ≤ (x10_3 : Int) := ofDec
            have q389 : x10_3 < (t351.length : Int) := ofDec
            obtain ⟨ad389, A389_5, c389_5, e389, hx389_0, hx389_1, hx389_2, hx389_3, hx389_4, hx389_5, hl389_5, hi389_5⟩ := at_T41 (Kd.S_reads' HO_3.out).2.2 x10_3 p389 q389
            obtain rfl : ad378 = ad389 := (by injection e389)
            obtain ⟨ce389, hce389, hMe389, hcc389⟩ := Kd.S_get HO_3.out z41 x10_3 p389 (by first | exact q389 | exact ofDec | (have e_ := (Kd.S_reads' HO_3.out).1; omega))
            obtain ⟨ve389_5, rfl, ge389_5⟩ := k41_openM hMe389
            have hv389_5 := hcc389 5 _ rfl
            rw [add_field _ _ 5 (by omega)] at hv389_5
            replace hv389_5 := Option.some.inj (hv389_5.symm.trans hx389_5)
            rw [hv389_5] at ge389_5
            have HL389_5 := Aside0.mk (show Kd.R k56 56 _ _ _ _ ((rd_T41 t351 x10_3).f5) from ge389_5)
            clear hv389_5 ge389_5
            clear hcc389 hce389
            have HR389_5 := Aside0.mk hi389_5
            have HC389_5 := Aside0.mk hl389_5
            clear hi389_5 hl389_5
            replace p389 := eq_true p389
            replace q389 := eq_true q389
            have ea_ := Option.some.inj (hx388_5.symm.trans hx389_5)
            injection ea_ with ea_ en_ ec_
            subst ea_
            subst ec_
            clear en_
            have p390 : 0 ≤ (x14_5 : Int) := ofDec
            have q390 : x14_5 < (((rd_T41 t351 x10_3).f5).length : Int) := ofDec
            obtain ⟨ad390, e390, hx390_0, hx390_1⟩ := at_T56 (by repeat (first | (with_reducible exact HR389_5.out) | (with_reducible refine Kd.C_alloc ?_ _) | (with_reducible refine Kd.C_drewN ?_ _) | (with_reducible refine Kd.C_drew ?_) | exact HR389_5.out)) x14_5 p390 q390
            cases e390
            replace p390 := eq_true p390
            replace q390 := eq_true q390
            go_wp2
            go_roundg k5
            case measure => have := HJ9.out; have := HK2.out; have := HK3.out; have := HJ53.out; have := HK5.out; omega
            case rel => exact ⟨(wrap64 (x14_5 + 1)), eqNow, H', ⟨by have := HJ9.out; have := HK2.out; have := HK3.out; have := HJ53.out; have := HK5.out; omega⟩, ⟨kdMv HO_3⟩, ⟨bkUp BK341.out⟩, ⟨by repeat (first | (with_reducible exact HR378_5.out) | (with_reducible refine Kd.C_alloc ?_ _) | (with_reducible refine Kd.C_drewN ?_ _) | (with_reducible refine Kd.C_drew ?_) | exact HR378_5.out)⟩, ⟨by repeat (first | (with_reducible exact HR385_5.out) | (with_reducible refine Kd.C_alloc ?_ _) | (with_reducible refine Kd.C_drewN ?_ _) | (with_reducible refine Kd.C_drew ?_) | exact HR385_5.out)⟩, ⟨by repeat (first | (with_reducible exact HR386_5.out) | (with_reducible refine Kd.C_alloc ?_ _) | (with_reducible refine Kd.C_drewN ?_ _) | (with_reducible refine Kd.C_drew ?_) | exact HR386_5.out)⟩, ⟨belPut⟩⟩
 have H1 : (if (t351.length : Int) = 0 then ((selvagelaw10_works.f k).bind fun t391 => (some t391)) else (some false)) = some r := by rw [if_neg (show ¬ (some q355).isNone = true by simp)] at H; exact H
 clear H
 have H := H1
 clear H1
 try simp only [errW_none, errW_some]
 replace H := itEn H
 rcases H with ⟨c81, c81b0, c81b1, H⟩ | ⟨-, c81b0, c81b1, H⟩
 ·have c81b2 : ¬ (t351 = []) := fun h_ => c81 (by rw [h_]; rfl)
  obtain rfl := Option.some.inj H
  go_enter Tryd.func4, Tryd.ntmps4
  try go_wp2_with (first | ((with_reducible refine gate_dst (N := 1) rfl ?_); (try (refine gate_guard (by rfl) ?_; dsimp only)); refine boxEv (N := 1) #[.slice A0_0 l0_0.length c0_0, .slice A0_1 l0_1.length c0_1, .slice A0_2 l0_2.length c0_2, .int .i64 a0_3] 25 ?_; intro gb341 hg w94 hbox hb; have BK341 := Aside0.mk hbox; have GW341 := gwN HB hg; have GE341 := GW341; replace HB := hbD HB hb; clear hb hbox hg))
  replace BK341 := Aside0.mk (blk_drew BK341.out)
  replace HB := Aside0.mk (below_drew1 HB.out)
  refine start_ (n := 17) (S := fun w' => w'.cell? ⟨gb341, 0, none⟩ = some (.slice A0_0 l0_0.length c0_0) ∧ w'.cell? ⟨gb341, 1, none⟩ = some (.slice A0_1 l0_1.length c0_1) ∧ w'.cell? ⟨gb341, 2, none⟩ = some (.slice A0_2 l0_2.length c0_2) ∧ w'.cell? ⟨gb341, 3, none⟩ = some (.int .i64 a0_3)) (ds := []) #[false, false, false, false, false, false, false, false, false, false, false, false, false, false, false, false, false] (by kernel_rfl) rfl rfl ⟨bc BK341 0, bc BK341 1, bc BK341 2, bc BK341 3⟩ (fun hHeld => ?_); refine with_tabW selvagelaw10_HunksAround.tab1 selvagelaw10_HunksAround.bits1 (fun HT_ HW_ => ?_)
  generalize w94.drew = w95 at BK341 HB hHeld ⊢
  refine pureT 0 ?_
  refine pureT 3 ?_
  refine pureT 6 ?_
  refine pureT 9 ?_
  refine takeT 1 hHeld ?_
  refine takeT 4 hHeld ?_
  refine takeT 7 hHeld ?_
  refine takeT 10 hHeld ?_
  refine one_ (i := 2) (N := some 18) #[true, true, true, true, true, false, true, true, false, true, true, false, false, false, false, false, false] rfl rfl (one_of HT_.out (by kernel_rfl)) (by decide) (fun K hK => ?_)
  refine goes_ Tryd.func6 (by kernel_rfl) rfl #[.slice A0_0 l0_0.length c0_0] (by rfl) rfl rfl argsOk ?_
  with_reducible refine (selvagelaw10_changes.calls _ _ l0_0 t342 _ ?side1 ?side2 A2.out).mono ?_
  (case side1 => exact kcU HR0_0 HB)
  (case side2 => exact HC0_0.out)
  rintro e w96 ⟨v343, rfl, ho0, hb⟩
  refine ⟨_, rfl, ?_⟩
  have HO344 := Aside0.mk (Kd.R_lower ho0 (below_size (belPut)))
  replace BK341 := bkD BK341 hb
  replace HB := hbD HB hb
  (try clear hb)
  (try clear hb2)
  (try clear hk)
  (try clear hi)
  (try clear ho0)
  refine hK.out _ _ ⟨bc BK341 0, bc BK341 1, bc BK341 2, bc BK341 3⟩ (fun hHeld => ?_)
  clear hK K
  refine norm_ (a' := ?_) ?_ ?_
  rotate_left
  ·show Act.put _ (some 18) _ = _
   simp only [Act.put, List.setIfInBounds_toArray, List.set_cons_zero, List.set_cons_succ, i64_w, i32_w]
   rfl
  refine one_ (i := 5) (N := some 21) #[true, true, true, true, true, true, true, true, false, true, true, false, false, false, false, false, false] rfl rfl (one_of HT_.out (by kernel_rfl)) (by decide) (fun K hK => ?_)
  refine goes_ Tryd.func7 (by kernel_rfl) rfl #[.slice A0_1 l0_1.length c0_1] (by rfl) rfl rfl argsOk ?_
  with_reducible refine (selvagelaw10_texts.calls _ _ l0_1 t345 _ ?side1 ?side2 A3.out).mono ?_
  (case side1 => exact kcU HR0_1 HB)
  (case side2 => exact HC0_1.out)
  rintro e w97 ⟨v346, rfl, ho0, hb⟩
  refine ⟨_, rfl, ?_⟩
  replace HO344 := Aside0.mk (Kd.R_below (kdUp HO344.out) hb)
  have HO347 := Aside0.mk (Kd.R_lower ho0 (below_size (belPut)))
  replace BK341 := bkD BK341 hb
  replace HB := hbD HB hb
  (try clear hb)
  (try clear hb2)
  (try clear hk)
  (try clear hi)
  (try clear ho0)
  refine hK.out _ _ ⟨bc BK341 0, bc BK341 1, bc BK341 2, bc BK341 3⟩ (fun hHeld => ?_)
  clear hK K
  refine norm_ (a' := ?_) ?_ ?_
  rotate_left
  ·show Act.put _ (some 21) _ = _
   simp only [Act.put, List.setIfInBounds_toArray, List.set_cons_zero, List.set_cons_succ, i64_w, i32_w]
   rfl
  refine one_ (i := 8) (N := some 24) #[true, true, true, true, true, true, true, true, true, true, true, false, false, false, false, false, false] rfl rfl (one_of HT_.out (by kernel_rfl)) (by decide) (fun K hK => ?_)
  refine goes_ Tryd.func7 (by kernel_rfl) rfl #[.slice A0_2 l0_2.length c0_2] (by rfl) rfl rfl argsOk ?_
  with_reducible refine (selvagelaw10_texts.calls _ _ l0_2 t348 _ ?side1 ?side2 A4.out).mono ?_
  (case side1 => exact kcU HR0_2 HB)
  (case side2 => exact HC0_2.out)
  rintro e w98 ⟨v349, rfl, ho0, hb⟩
  refine ⟨_, rfl, ?_⟩
  replace HO344 := Aside0.mk (Kd.R_below (kdUp HO344.out) hb)
  have HO350 := Aside0.mk (Kd.R_lower (Kd.R_new' ho0 (Kd.R_lt (kdUp HO347.out))) (below_size (belPut)))
  replace HO347 := Aside0.mk (Kd.R_elder' (kdUp HO347.out) (Kd.R_base ho0) hb)
  replace BK341 := bkD BK341 hb
  replace HB := hbD HB hb
  (try clear hb)
  (try clear hb2)
  (try clear hk)
  (try clear hi)
  (try clear ho0)
  obtain ⟨Ao99, co99, eo99⟩ := Kd.R_slice HO344.out
  (first | subst eo99 | (injection eo99 with f1_ f2_ f3_; have f4_ := f1_.symm; have f5_ := f3_.symm; clear f1_ f2_ f3_; subst f4_; subst f5_))
  obtain ⟨Ao100, co100, eo100⟩ := Kd.R_slice HO347.out
  (first | subst eo100 | (injection eo100 with f1_ f2_ f3_; have f4_ := f1_.symm; have f5_ := f3_.symm; clear f1_ f2_ f3_; subst f4_; subst f5_))
  obtain ⟨Ao101, co101, eo101⟩ := Kd.R_slice HO350.out
  (first | subst eo101 | (injection eo101 with f1_ f2_ f3_; have f4_ := f1_.symm; have f5_ := f3_.symm; clear f1_ f2_ f3_; subst f4_; subst f5_))
  refine hK.out _ _ ⟨bc BK341 0, bc BK341 1, bc BK341 2, bc BK341 3⟩ (fun hHeld => ?_)
  clear hK K
  refine norm_ (a' := ?_) ?_ ?_
  rotate_left
  ·show Act.put _ (some 24) _ = _
   simp only [Act.put, List.setIfInBounds_toArray, List.set_cons_zero, List.set_cons_succ, i64_w, i32_w]
   rfl
  refine one_ (i := 11) (N := some 27) #[true, true, true, true, true, true, true, true, true, true, true, true, false, false, false, false, false] rfl rfl (one_of HT_.out (by kernel_rfl)) (by decide) (fun K hK => ?_)
  refine goes_ Tryd.func5 (by kernel_rfl) rfl #[.slice Ao99 t342.length co99, .slice Ao100 t345.length co100, .slice Ao101 t348.length co101, .int .i64 a0_3] (by rfl) rfl rfl argsOk ?_
  with_reducible refine (hunks_Build.calls k _ _ t342 _ _ t345 _ _ t348 a0_3 t351 (some q355) _ ?side1 ?side2 ?side3 ?side4 ?side5 ?side6 A5.out).mono ?_
  (case side1 => repeat (first | exact (Kd.R_reads' HO344.out).2.2 | (with_reducible refine Kd.C_alloc ?_ _) | (with_reducible refine Kd.C_drewN ?_ _) | (with_reducible refine Kd.C_drew ?_)))
  (case side2 => exact (Kd.R_reads' HO344.out).2.1)
  (case side3 => repeat (first | exact (Kd.R_reads' HO347.out).2.2 | (with_reducible refine Kd.C_alloc ?_ _) | (with_reducible refine Kd.C_drewN ?_ _) | (with_reducible refine Kd.C_drew ?_)))
  (case side4 => exact (Kd.R_reads' HO347.out).2.1)
  (case side5 => repeat (first | exact (Kd.R_reads' HO350.out).2.2 | (with_reducible refine Kd.C_alloc ?_ _) | (with_reducible refine Kd.C_drewN ?_ _) | (with_reducible refine Kd.C_drew ?_)))
  (case side6 => exact (Kd.R_reads' HO350.out).2.1)
  rintro e w102 ⟨v353, rfl, ho0, hb⟩
  refine ⟨_, rfl, ?_⟩
  replace HO344 := Aside0.mk (Kd.R_below (kdUp HO344.out) hb)
  replace HO347 := Aside0.mk (Kd.R_below (kdUp HO347.out) hb)
  replace HO350 := Aside0.mk (Kd.R_below (kdUp HO350.out) hb)
  have HO354 := Aside0.mk (Kd.S_lower ho0 (below_size (belPut)))
  replace BK341 := bkD BK341 hb
  replace HB := hbD HB hb
  (try clear hb)
  (try clear hb2)
  (try clear hk)
  (try clear hi)
  (try clear ho0)
  (try simp only [errW_none, errW_some])
  refine hK.out _ _ ⟨bc BK341 0, bc BK341 1, bc BK341 2, bc BK341 3⟩ (fun hHeld => ?_)
  clear hK K
  refine norm_ (a' := ?_) ?_ ?_
  rotate_left
  ·show Act.put _ (some 27) _ = _
   simp only [Act.put, List.setIfInBounds_toArray, List.set_cons_zero, List.set_cons_succ, i64_w, i32_w]
   rfl
  refine pureT 12 ?_
  refine pureT 13 ?_
  refine pureT 14 ?_
  refine pureT 15 ?_
  refine pureT 16 ?_
  refine done_ (done_of HT_.out (by kernel_rfl)) ?_
  obtain ⟨Ao103, co103, eo103⟩ := Kd.S_slice HO354.out
  subst eo103
  try go_wp2
  go_ret
  exact ⟨eqEnd, belPut⟩
 replace H := bdS H
 obtain ⟨t391, A82, H⟩ := H
 obtain rfl := Option.some.inj H
 go_enter Tryd.func4, Tryd.ntmps4
 try go_wp2_with (first | ((with_reducible refine gate_dst (N := 1) rfl ?_); (try (refine gate_guard (by rfl) ?_; dsimp only)); refine boxEv (N := 1) #[.slice A0_0 l0_0.length c0_0, .slice A0_1 l0_1.length c0_1, .slice A0_2 l0_2.length c0_2, .int .i64 a0_3] 25 ?_; intro gb341 hg w83 hbox hb; have BK341 := Aside0.mk hbox; have GW341 := gwN HB hg; have GE341 := GW341; replace HB := hbD HB hb; clear hb hbox hg))
 replace BK341 := Aside0.mk (blk_drew BK341.out)
 replace HB := Aside0.mk (below_drew1 HB.out)
 refine start_ (n := 17) (S := fun w' => w'.cell? ⟨gb341, 0, none⟩ = some (.slice A0_0 l0_0.length c0_0) ∧ w'.cell? ⟨gb341, 1, none⟩ = some (.slice A0_1 l0_1.length c0_1) ∧ w'.cell? ⟨gb341, 2, none⟩ = some (.slice A0_2 l0_2.length c0_2) ∧ w'.cell? ⟨gb341, 3, none⟩ = some (.int .i64 a0_3)) (ds := []) #[false, false, false, false, false, false, false, false, false, false, false, false, false, false, false, false, false] (by kernel_rfl) rfl rfl ⟨bc BK341 0, bc BK341 1, bc BK341 2, bc BK341 3⟩ (fun hHeld => ?_); refine with_tabW selvagelaw10_HunksAround.tab1 selvagelaw10_HunksAround.bits1 (fun HT_ HW_ => ?_)
 generalize w83.drew = w84 at BK341 HB hHeld ⊢
 refine pureT 0 ?_
 refine pureT 3 ?_
 refine pureT 6 ?_
 refine pureT 9 ?_
 refine takeT 1 hHeld ?_
 refine takeT 4 hHeld ?_
 refine takeT 7 hHeld ?_
 refine takeT 10 hHeld ?_
 refine one_ (i := 2) (N := some 18) #[true, true, true, true, true, false, true, true, false, true, true, false, false, false, false, false, false] rfl rfl (one_of HT_.out (by kernel_rfl)) (by decide) (fun K hK => ?_)
 refine goes_ Tryd.func6 (by kernel_rfl) rfl #[.slice A0_0 l0_0.length c0_0] (by rfl) rfl rfl argsOk ?_
 with_reducible refine (selvagelaw10_changes.calls _ _ l0_0 t342 _ ?side1 ?side2 A2.out).mono ?_
 (case side1 => exact kcU HR0_0 HB)
 (case side2 => exact HC0_0.out)
 rintro e w85 ⟨v343, rfl, ho0, hb⟩
 refine ⟨_, rfl, ?_⟩
 have HO344 := Aside0.mk (Kd.R_lower ho0 (below_size (belPut)))
 replace BK341 := bkD BK341 hb
 replace HB := hbD HB hb
 (try clear hb)
 (try clear hb2)
 (try clear hk)
 (try clear hi)
 (try clear ho0)
 refine hK.out _ _ ⟨bc BK341 0, bc BK341 1, bc BK341 2, bc BK341 3⟩ (fun hHeld => ?_)
 clear hK K
 refine norm_ (a' := ?_) ?_ ?_
 rotate_left
 ·show Act.put _ (some 18) _ = _
  simp only [Act.put, List.setIfInBounds_toArray, List.set_cons_zero, List.set_cons_succ, i64_w, i32_w]
  rfl
 refine one_ (i := 5) (N := some 21) #[true, true, true, true, true, true, true, true, false, true, true, false, false, false, false, false, false] rfl rfl (one_of HT_.out (by kernel_rfl)) (by decide) (fun K hK => ?_)
 refine goes_ Tryd.func7 (by kernel_rfl) rfl #[.slice A0_1 l0_1.length c0_1] (by rfl) rfl rfl argsOk ?_
 with_reducible refine (selvagelaw10_texts.calls _ _ l0_1 t345 _ ?side1 ?side2 A3.out).mono ?_
 (case side1 => exact kcU HR0_1 HB)
 (case side2 => exact HC0_1.out)
 rintro e w86 ⟨v346, rfl, ho0, hb⟩
 refine ⟨_, rfl, ?_⟩
 replace HO344 := Aside0.mk (Kd.R_below (kdUp HO344.out) hb)
 have HO347 := Aside0.mk (Kd.R_lower ho0 (below_size (belPut)))
 replace BK341 := bkD BK341 hb
 replace HB := hbD HB hb
 (try clear hb)
 (try clear hb2)
 (try clear hk)
 (try clear hi)
 (try clear ho0)
 refine hK.out _ _ ⟨bc BK341 0, bc BK341 1, bc BK341 2, bc BK341 3⟩ (fun hHeld => ?_)
 clear hK K
 refine norm_ (a' := ?_) ?_ ?_
 rotate_left
 ·show Act.put _ (some 21) _ = _
  simp only [Act.put, List.setIfInBounds_toArray, List.set_cons_zero, List.set_cons_succ, i64_w, i32_w]
  rfl
 refine one_ (i := 8) (N := some 24) #[true, true, true, true, true, true, true, true, true, true, true, false, false, false, false, false, false] rfl rfl (one_of HT_.out (by kernel_rfl)) (by decide) (fun K hK => ?_)
 refine goes_ Tryd.func7 (by kernel_rfl) rfl #[.slice A0_2 l0_2.length c0_2] (by rfl) rfl rfl argsOk ?_
 with_reducible refine (selvagelaw10_texts.calls _ _ l0_2 t348 _ ?side1 ?side2 A4.out).mono ?_
 (case side1 => exact kcU HR0_2 HB)
 (case side2 => exact HC0_2.out)
 rintro e w87 ⟨v349, rfl, ho0, hb⟩
 refine ⟨_, rfl, ?_⟩
 replace HO344 := Aside0.mk (Kd.R_below (kdUp HO344.out) hb)
 have HO350 := Aside0.mk (Kd.R_lower (Kd.R_new' ho0 (Kd.R_lt (kdUp HO347.out))) (below_size (belPut)))
 replace HO347 := Aside0.mk (Kd.R_elder' (kdUp HO347.out) (Kd.R_base ho0) hb)
 replace BK341 := bkD BK341 hb
 replace HB := hbD HB hb
 (try clear hb)
 (try clear hb2)
 (try clear hk)
 (try clear hi)
 (try clear ho0)
 obtain ⟨Ao88, co88, eo88⟩ := Kd.R_slice HO344.out
 (first | subst eo88 | (injection eo88 with f1_ f2_ f3_; have f4_ := f1_.symm; have f5_ := f3_.symm; clear f1_ f2_ f3_; subst f4_; subst f5_))
 obtain ⟨Ao89, co89, eo89⟩ := Kd.R_slice HO347.out
 (first | subst eo89 | (injection eo89 with f1_ f2_ f3_; have f4_ := f1_.symm; have f5_ := f3_.symm; clear f1_ f2_ f3_; subst f4_; subst f5_))
 obtain ⟨Ao90, co90, eo90⟩ := Kd.R_slice HO350.out
 (first | subst eo90 | (injection eo90 with f1_ f2_ f3_; have f4_ := f1_.symm; have f5_ := f3_.symm; clear f1_ f2_ f3_; subst f4_; subst f5_))
 refine hK.out _ _ ⟨bc BK341 0, bc BK341 1, bc BK341 2, bc BK341 3⟩ (fun hHeld => ?_)
 clear hK K
 refine norm_ (a' := ?_) ?_ ?_
 rotate_left
 ·show Act.put _ (some 24) _ = _
  simp only [Act.put, List.setIfInBounds_toArray, List.set_cons_zero, List.set_cons_succ, i64_w, i32_w]
  rfl
 refine one_ (i := 11) (N := some 27) #[true, true, true, true, true, true, true, true, true, true, true, true, false, false, false, false, false] rfl rfl (one_of HT_.out (by kernel_rfl)) (by decide) (fun K hK => ?_)
 refine goes_ Tryd.func5 (by kernel_rfl) rfl #[.slice Ao88 t342.length co88, .slice Ao89 t345.length co89, .slice Ao90 t348.length co90, .int .i64 a0_3] (by rfl) rfl rfl argsOk ?_
 with_reducible refine (hunks_Build.calls k _ _ t342 _ _ t345 _ _ t348 a0_3 t351 (some q355) _ ?side1 ?side2 ?side3 ?side4 ?side5 ?side6 A5.out).mono ?_
 (case side1 => repeat (first | exact (Kd.R_reads' HO344.out).2.2 | (with_reducible refine Kd.C_alloc ?_ _) | (with_reducible refine Kd.C_drewN ?_ _) | (with_reducible refine Kd.C_drew ?_)))
 (case side2 => exact (Kd.R_reads' HO344.out).2.1)
 (case side3 => repeat (first | exact (Kd.R_reads' HO347.out).2.2 | (with_reducible refine Kd.C_alloc ?_ _) | (with_reducible refine Kd.C_drewN ?_ _) | (with_reducible refine Kd.C_drew ?_)))
 (case side4 => exact (Kd.R_reads' HO347.out).2.1)
 (case side5 => repeat (first | exact (Kd.R_reads' HO350.out).2.2 | (with_reducible refine Kd.C_alloc ?_ _) | (with_reducible refine Kd.C_drewN ?_ _) | (with_reducible refine Kd.C_drew ?_)))
 (case side6 => exact (Kd.R_reads' HO350.out).2.1)
 rintro e w91 ⟨v353, rfl, ho0, hb⟩
 refine ⟨_, rfl, ?_⟩
 replace HO344 := Aside0.mk (Kd.R_below (kdUp HO344.out) hb)
 replace HO347 := Aside0.mk (Kd.R_below (kdUp HO347.out) hb)
 replace HO350 := Aside0.mk (Kd.R_below (kdUp HO350.out) hb)
 have HO354 := Aside0.mk (Kd.S_lower ho0 (below_size (belPut)))
 replace BK341 := bkD BK341 hb
 replace HB := hbD HB hb
 (try clear hb)
 (try clear hb2)
 (try clear hk)
 (try clear hi)
 (try clear ho0)
 (try simp only [errW_none, errW_some])
 refine hK.out _ _ ⟨bc BK341 0, bc BK341 1, bc BK341 2, bc BK341 3⟩ (fun hHeld => ?_)
 clear hK K
 refine norm_ (a' := ?_) ?_ ?_
 rotate_left
 ·show Act.put _ (some 27) _ = _
  simp only [Act.put, List.setIfInBounds_toArray, List.set_cons_zero, List.set_cons_succ, i64_w, i32_w]
  rfl
 refine pureT 12 ?_
 refine pureT 13 ?_
 refine pureT 14 ?_
 refine pureT 15 ?_
 refine pureT 16 ?_
 refine done_ (done_of HT_.out (by kernel_rfl)) ?_
 obtain ⟨Ao92, co92, eo92⟩ := Kd.S_slice HO354.out
 subst eo92
 try go_wp2_with (first | (go_at_call 8; (with_reducible refine (selvagelaw10_works.calls k  t391 _ ?side1 A82.out).mono ?_); (case side1 => exact Glob.below hGL (belPut)); rintro e w93 ⟨rfl, hb⟩; replace HO344 := Aside0.mk (Kd.R_below (kdUp HO344.out) hb); replace HO347 := Aside0.mk (Kd.R_below (kdUp HO347.out) hb); replace HO350 := Aside0.mk (Kd.R_below (kdUp HO350.out) hb); replace HO354 := Aside0.mk (Kd.S_below (by (with_reducible repeat (first | apply Kd.S_alloc | apply Kd.S_drewN | apply Kd.S_drew)); exact HO354.out) hb); replace BK341 := bkD BK341 hb; replace HB := hbD HB hb; clear hb))
 go_ret
 exact ⟨eqEnd, belPut⟩
end Go.Proofs.YtecjoofjiockkaaDoor.Pp
