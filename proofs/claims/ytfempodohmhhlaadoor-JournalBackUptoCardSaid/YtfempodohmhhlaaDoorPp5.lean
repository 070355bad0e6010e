-- Printed by this session's pp.py over the kit's printer, out of the translation. Lean checks it.
import Derived.Test.YtfempodohmhhlaaDoorESq
import Derived.Test.YtfempodohmhhlaaDoorPp0
import Derived.Test.YtfempodohmhhlaaDoorPp4
namespace Go.Proofs.YtfempodohmhhlaaDoor.Pp
open Go.RowKit Go.Proofs.YtfempodohmhhlaaDoor.Ext Go.Proofs.YtfempodohmhhlaaDoorW.PrintWords Go.Proofs.YtfempodohmhhlaaDoorW.PrintLast Go.Proofs.YtfempodohmhhlaaDoorW.PrintMore
attribute [local go_sem] max2_int min2_int max_two min_two max_three min_three max_four min_four   -- for this text's walks alone
set_option linter.unusedVariables false
set_option linter.unusedSimpArgs false
def selvageref02_escape.l0 : Nat → Int → Int → Option (ByteArray)
 | 0, _, _ => none
 | k + 1, x0, x3 => if x3 < 9 then (if 0 ≤ x3 then (if (bt (⟨#[7, 8, 9, 10, 11, 12, 13, 34, 92]⟩ : ByteArray) x3) = x0 then (if x3 ≤ (wrap64 (x3 + 1)) then (if (wrap64 (x3 + 1)) ≤ 9 then (if 1 + (((⟨#[97, 98, 116, 110, 118, 102, 114, 34, 92]⟩ : ByteArray).extract (x3 : Int).toNat ((wrap64 (x3 + 1)) : Int).toNat).size) ≤ 9223372036854775807 then (some ((⟨#[92]⟩ : ByteArray) ++ ((⟨#[97, 98, 116, 110, 118, 102, 114, 34, 92]⟩ : ByteArray).extract (x3 : Int).toNat ((wrap64 (x3 + 1)) : Int).toNat))) else (none)) else (none)) else (none)) else (selvageref02_escape.l0 k x0 (wrap64 (x3 + 1)))) else (none)) else (if x0 ≥ 32 then (if x0 < 127 then (some (strOfNums (([x0] : List Int)))) else (if 0 ≤ (wrap64 (Int.tdiv (wrap64 (x0)) 64)) then (if (wrap64 (Int.tdiv (wrap64 (x0)) 64)) < 8 then (if 0 ≤ (Int.tmod (wrap64 (Int.tdiv (wrap64 (x0)) 8)) 8) then (if (Int.tmod (wrap64 (Int.tdiv (wrap64 (x0)) 8)) 8) < 8 then (if 0 ≤ (Int.tmod (wrap64 (x0)) 8) then (if (Int.tmod (wrap64 (x0)) 8) < 8 then (some (strOfNums (([92, bt (⟨#[48, 49, 50, 51, 52, 53, 54, 55]⟩ : ByteArray) (wrap64 (Int.tdiv (wrap64 (x0)) 64)), bt (⟨#[48, 49, 50, 51, 52, 53, 54, 55]⟩ : ByteArray) (Int.tmod (wrap64 (Int.tdiv (wrap64 (x0)) 8)) 8), bt (⟨#[48, 49, 50, 51, 52, 53, 54, 55]⟩ : ByteArray) (Int.tmod (wrap64 (x0)) 8)] : List Int)))) else (none)) else (none)) else (none)) else (none)) else (none)) else (none))) else (if 0 ≤ (wrap64 (Int.tdiv (wrap64 (x0)) 64)) then (if (wrap64 (Int.tdiv (wrap64 (x0)) 64)) < 8 then (if 0 ≤ (Int.tmod (wrap64 (Int.tdiv (wrap64 (x0)) 8)) 8) then (if (Int.tmod (wrap64 (Int.tdiv (wrap64 (x0)) 8)) 8) < 8 then (if 0 ≤ (Int.tmod (wrap64 (x0)) 8) then (if (Int.tmod (wrap64 (x0)) 8) < 8 then (some (strOfNums (([92, bt (⟨#[48, 49, 50, 51, 52, 53, 54, 55]⟩ : ByteArray) (wrap64 (Int.tdiv (wrap64 (x0)) 64)), bt (⟨#[48, 49, 50, 51, 52, 53, 54, 55]⟩ : ByteArray) (Int.tmod (wrap64 (Int.tdiv (wrap64 (x0)) 8)) 8), bt (⟨#[48, 49, 50, 51, 52, 53, 54, 55]⟩ : ByteArray) (Int.tmod (wrap64 (x0)) 8)] : List Int)))) else (none)) else (none)) else (none)) else (none)) else (none)) else (none)))
def selvageref02_escape.f (k : Nat) (a0 : Int) : Option (ByteArray) := selvageref02_escape.l0 k a0 0
theorem selvageref02_escape.mono_l : ∀ k, (∀ y0 y1, LeO (selvageref02_escape.l0 k y0 y1) (selvageref02_escape.l0 (k + 1) y0 y1))
 | 0 => fun _ _ r h => by simp [selvageref02_escape.l0] at h
 | k + 1 => by
  have ih0 := selvageref02_escape.mono_l k
  ·intro y0 y1
   unfold selvageref02_escape.l0
   repeat' first
   | (with_reducible exact ih0 _ _)
   | (with_reducible exact LeO.refl _)
   | (with_reducible exact LeO.none _)
   | (with_reducible refine LeO.ite ?_ ?_)
   | (with_reducible refine LeO.bind ?_ (fun _ => ?_))
   | exact ih0 _ _
   | exact LeO.none _
   | refine LeO.ite ?_ ?_
   | refine LeO.bind ?_ (fun _ => ?_)
theorem selvageref02_escape.mono : ∀ a0 k, LeO (selvageref02_escape.f k a0) (selvageref02_escape.f (k + 1) a0) := by
 intro a0 k
 have ih0 := selvageref02_escape.mono_l k
 unfold selvageref02_escape.f
 repeat' first
   | (with_reducible exact ih0 _ _)
   | (with_reducible exact LeO.refl _)
   | (with_reducible exact LeO.none _)
   | (with_reducible refine LeO.ite ?_ ?_)
   | (with_reducible refine LeO.bind ?_ (fun _ => ?_))
   | exact ih0 _ _
   | exact LeO.none _
   | refine LeO.ite ?_ ?_
   | refine LeO.bind ?_ (fun _ => ?_)
def selvageref02_escape.T9 : Bool × List (List Nat × List Nat) := (true, [([], []), ([0], [0]), ([1], [1]), ([], []), ([3], [3]), ([4], [4]), ([5], [5]), ([], []), ([7], [7]), ([8], [8]), ([2, 6, 9], [2, 6, 9]), ([10], [10]), ([11, 0, 1, 2, 3, 4, 5, 6, 7, 8, 9, 10, 11], [11])])
def selvageref02_escape.B9 : List Nat := [0, 1, 3, 0, 8, 24, 56, 0, 128, 384, 1023, 2047, 4095]
theorem selvageref02_escape.tab9 : rtab .any (opsOf Tryd.f50 9) = selvageref02_escape.T9 := by kernel_rfl
theorem selvageref02_escape.bits9 : waitsOk selvageref02_escape.T9.2 selvageref02_escape.B9 = true := by kernel_rfl
set_option maxHeartbeats 8000000 in
set_option maxRecDepth 100000 in
theorem selvageref02_escape.calls (k : Nat) (a0 : Int) (r : ByteArray) (w : World) (h : selvageref02_escape.f k a0 = some r) :
  Calls Tryd.prog 50 #[.int .u8 a0] w fun e w' => e = .returned (.string r) ∧ Below w.heap.size w w' := by
 have HB := Aside0.mk (Below.refl w.heap.size w)
 have H : (selvageref02_escape.l0 k a0 0) = some r := h
 clear h
 have H' := Aside0.mk H
 clear H
 go_enter Tryd.func50, Tryd.ntmps50
 go_wp2
 go_loopg [3] k (fun kq v3 w' => ∃ (x3_1 : Int), v3 = .int .i64 x3_1 ∧ Aside0 (selvageref02_escape.l0 kq a0 x3_1 = some r) ∧ Aside0 (kq ≤ k) ∧ Aside0 (Below w.heap.size w w'))
 case atStart => exact ⟨(0), eqNow, H', ⟨Nat.le_refl _⟩, ⟨belNow⟩⟩
 case round =>
  clear H'
  obtain ⟨x3_1, rfl, HA, HK1, HB⟩ := hrel
  cases gk with
  | zero => exact absurd HA.out (by simp [selvageref02_escape.l0])
  | succ k1 =>
   have H := HA.out
   clear HA
   simp only [selvageref02_escape.l0] at H
   by_cases c2 : x3_1 < 9
   ·rw [if_pos c2] at H
    have c2b0 : decide (x3_1 < 9) = true := decide_eq_true c2
    clear c2
    by_cases c3 : 0 ≤ x3_1
    ·rw [if_pos c3] at H
     have c3b0 : decide (0 ≤ x3_1) = true := decide_eq_true c3
     clear c3
     by_cases c5 : (bt (⟨#[7, 8, 9, 10, 11, 12, 13, 34, 92]⟩ : ByteArray) x3_1) = a0
     ·rw [if_pos c5] at H
      have c5b0 : ((bt (⟨#[7, 8, 9, 10, 11, 12, 13, 34, 92]⟩ : ByteArray) x3_1) == a0) = true := beq_iff_eq.mpr c5
      have c5b1 : ((bt (⟨#[7, 8, 9, 10, 11, 12, 13, 34, 92]⟩ : ByteArray) x3_1) != a0) = false := bne_eq_false_iff_eq.mpr c5
      clear c5
      have c6b0 := eq_true (ofDec : 0 ≤ x3_1)
      by_cases c7 : x3_1 ≤ (wrap64 (x3_1 + 1))
      ·rw [if_pos c7] at H
       have c7b0 := eq_true c7
       have c7b1 : decide (x3_1 ≤ (wrap64 (x3_1 + 1))) = true := decide_eq_true c7
       by_cases c8 : (wrap64 (x3_1 + 1)) ≤ 9
       ·rw [if_pos c8] at H
        have c8b0 := eq_true c8
        have c8b1 : decide ((wrap64 (x3_1 + 1)) ≤ 9) = true := decide_eq_true c8
        by_cases c9 : 1 + (((⟨#[97, 98, 116, 110, 118, 102, 114, 34, 92]⟩ : ByteArray).extract (x3_1 : Int).toNat ((wrap64 (x3_1 + 1)) : Int).toNat).size) ≤ 9223372036854775807
        ·rw [if_pos c9] at H
         have c9b0 := eq_true c9
         have c9b1 : decide (1 + (((⟨#[97, 98, 116, 110, 118, 102, 114, 34, 92]⟩ : ByteArray).extract (x3_1 : Int).toNat ((wrap64 (x3_1 + 1)) : Int).toNat).size) ≤ 9223372036854775807) = true := decide_eq_true c9
         try have c9b2 : (9223372036854775807 < 1 + (((⟨#[97, 98, 116, 110, 118, 102, 114, 34, 92]⟩ : ByteArray).extract (x3_1 : Int).toNat ((wrap64 (x3_1 + 1)) : Int).toNat).size)) = False := eq_false (Nat.not_lt.2 c9)
         obtain rfl := Option.some.inj H
         have p4 : 0 ≤ (x3_1 : Int) := ofDec
         have q4 : x3_1 < (9 : Int) := ofDec
         have hx4 := bt_at (⟨#[7, 8, 9, 10, 11, 12, 13, 34, 92]⟩ : ByteArray) x3_1
         replace p4 := eq_true p4
         replace q4 := eq_true q4
         go_wp2
         go_ret
         exact ⟨eqEnd, belNow⟩
        ·rw [if_neg c9] at H
         exact absurd H (by simp)
       ·rw [if_neg c8] at H
        exact absurd H (by simp)
      ·rw [if_neg c7] at H
       exact absurd H (by simp)
     ·rw [if_neg c5] at H
      have c5b0 : ((bt (⟨#[7, 8, 9, 10, 11, 12, 13, 34, 92]⟩ : ByteArray) x3_1) == a0) = false := beq_eq_false_iff_ne.mpr c5
      have c5b1 : ((bt (⟨#[7, 8, 9, 10, 11, 12, 13, 34, 92]⟩ : ByteArray) x3_1) != a0) = true := bne_iff_ne.mpr c5
      have H' := Aside0.mk H
      clear H
      have p4 : 0 ≤ (x3_1 : Int) := ofDec
      have q4 : x3_1 < (9 : Int) := ofDec
      have hx4 := bt_at (⟨#[7, 8, 9, 10, 11, 12, 13, 34, 92]⟩ : ByteArray) x3_1
      replace p4 := eq_true p4
      replace q4 := eq_true q4
      go_wp2
      go_roundg k1
      case measure => have := HK1.out; omega
      case rel => exact ⟨(wrap64 (x3_1 + 1)), eqNow, H', ⟨by have := HK1.out; omega⟩, ⟨belNow⟩⟩
    ·rw [if_neg c3] at H
     exact absurd H (by simp)
   ·rw [if_neg c2] at H
    have c2b0 : decide (x3_1 < 9) = false := decide_eq_false c2
    clear c2
    by_cases c10 : a0 ≥ 32
    ·rw [if_pos c10] at H
     have c10b0 : decide (32 ≤ a0) = true := decide_eq_true c10
     clear c10
     by_cases c11 : a0 < 127
     ·rw [if_pos c11] at H
      have c11b0 : decide (a0 < 127) = true := decide_eq_true c11
      clear c11
      obtain ⟨y136, hy136⟩ : ∃ y_ : List Int, y_ = (([a0] : List Int)) := ⟨_, rfl⟩
      replace H : (some (strOfNums y136)) = some r := by first | (rw [hy136]; with_reducible exact H) | (have H2_ := (Option.bind_some _ _).symm.trans H; rw [hy136]; with_reducible exact H2_) | (have H2_ := (Option.bind_some _ _).symm.trans H; with_reducible exact H2_) | with_reducible exact H | (rw [hy136]; exact H) | exact H
      have Ny136 := Aside0.mk hy136
      clear hy136
      obtain rfl := Option.some.inj H
      go_wp2_with (first | ((with_reducible refine gate_dst (N := 25) rfl ?_); refine Kd.R_lit (Kd.int .u8) _ 5 ?hg (N := 25) ?hd (xs := ([a0] : List Int)) (inner := [.int .u8 a0]) (ok := fun _ => True) (okp := fun _ => True) ?hr ?hp (fun _ hk => hk) trivial (Below.refl _ _) (Nat.le_refl _) (by simp) ?_; (case hd => rfl); (case hg => rfl); (case hr => first | (go_simp; done) | (go_simp; rfl)); (case hp => exact (Reps.one (show Kd.M (Kd.int .u8) _ _ _ a0 [.int .u8 a0] from rfl) (Reps.none _ _))); intro v137 w12 ho13 hb hg_ hnew_; clear hg_ hnew_; (first | rw [← Ny136.out] at ho13 | (simp only [Int.reduceToNat] at ho13; rw [← Ny136.out] at ho13)); have n0_ := Aside0.mk (Kd.R_lower ho13 (below_size belNow)); have n1_ := Aside0.mk (below_step belNow hb); clear HB; have HO138 := n0_; have HB := n1_; clear n0_ n1_; clear hb ho13; have hcv14 := own_string (P := Tryd.prog) Tryd.underlying44 Tryd.underlying5 Tryd.underlying9 (Kd.own_of_R HO138.out); have hcq14 := fun n_ : Nat => own_string (P := Tryd.prog) Tryd.underlying44 Tryd.underlying5 Tryd.underlying9 (Kd.own_of_R (Kd.R_drewN HO138.out n_))))
      go_ret
      exact ⟨eqEnd, belNow⟩
     ·rw [if_neg c11] at H
      have c11b0 : decide (a0 < 127) = false := decide_eq_false c11
      clear c11
      obtain ⟨ji15, hji15⟩ : ∃ j_ : Int, (wrap64 (Int.tdiv (wrap64 (a0)) 64)) = j_ := ⟨_, rfl⟩
      replace H : (if 0 ≤ (ji15) then (if (ji15) < 8 then (if 0 ≤ (Int.tmod (wrap64 (Int.tdiv (wrap64 (a0)) 8)) 8) then (if (Int.tmod (wrap64 (Int.tdiv (wrap64 (a0)) 8)) 8) < 8 then (if 0 ≤ (Int.tmod (wrap64 (a0)) 8) then (if (Int.tmod (wrap64 (a0)) 8) < 8 then (some (strOfNums (([92, bt (⟨#[48, 49, 50, 51, 52, 53, 54, 55]⟩ : ByteArray) (ji15), bt (⟨#[48, 49, 50, 51, 52, 53, 54, 55]⟩ : ByteArray) (Int.tmod (wrap64 (Int.tdiv (wrap64 (a0)) 8)) 8), bt (⟨#[48, 49, 50, 51, 52, 53, 54, 55]⟩ : ByteArray) (Int.tmod (wrap64 (a0)) 8)] : List Int)))) else (none)) else (none)) else (none)) else (none)) else (none)) else (none)) = some r := by first | (rw [hji15] at H; exact H) | (simp only [hji15] at H ⊢; exact H)
      have hji15w : (IntKind.i64.wrap (Int.tdiv (wrap64 (a0)) 64)) = ji15 := (i64_w _).trans hji15
      by_cases c16 : 0 ≤ (ji15)
      ·rw [if_pos c16] at H
       have c16b0 : decide (0 ≤ (ji15)) = true := decide_eq_true c16
       clear c16
       by_cases c17 : (ji15) < 8
       ·rw [if_pos c17] at H
        have c17b0 : decide ((ji15) < 8) = true := decide_eq_true c17
        clear c17
        obtain ⟨ji19, hji19⟩ : ∃ j_ : Int, (Int.tmod (wrap64 (Int.tdiv (wrap64 (a0)) 8)) 8) = j_ := ⟨_, rfl⟩
        replace H : (if 0 ≤ (ji19) then (if (ji19) < 8 then (if 0 ≤ (Int.tmod (wrap64 (a0)) 8) then (if (Int.tmod (wrap64 (a0)) 8) < 8 then (some (strOfNums (([92, bt (⟨#[48, 49, 50, 51, 52, 53, 54, 55]⟩ : ByteArray) (ji15), bt (⟨#[48, 49, 50, 51, 52, 53, 54, 55]⟩ : ByteArray) (ji19), bt (⟨#[48, 49, 50, 51, 52, 53, 54, 55]⟩ : ByteArray) (Int.tmod (wrap64 (a0)) 8)] : List Int)))) else (none)) else (none)) else (none)) else (none)) = some r := by first | (rw [hji19] at H; exact H) | (simp only [hji19] at H ⊢; exact H)
        by_cases c20 : 0 ≤ (ji19)
        ·rw [if_pos c20] at H
         have c20b0 : decide (0 ≤ (ji19)) = true := decide_eq_true c20
         clear c20
         by_cases c21 : (ji19) < 8
         ·rw [if_pos c21] at H
          have c21b0 : decide ((ji19) < 8) = true := decide_eq_true c21
          clear c21
          obtain ⟨ji23, hji23⟩ : ∃ j_ : Int, (Int.tmod (wrap64 (a0)) 8) = j_ := ⟨_, rfl⟩
          replace H : (if 0 ≤ (ji23) then (if (ji23) < 8 then (some (strOfNums (([92, bt (⟨#[48, 49, 50, 51, 52, 53, 54, 55]⟩ : ByteArray) (ji15), bt (⟨#[48, 49, 50, 51, 52, 53, 54, 55]⟩ : ByteArray) (ji19), bt (⟨#[48, 49, 50, 51, 52, 53, 54, 55]⟩ : ByteArray) (ji23)] : List Int)))) else (none)) else (none)) = some r := by first | (rw [hji23] at H; exact H) | (simp only [hji23] at H ⊢; exact H)
          by_cases c24 : 0 ≤ (ji23)
          ·rw [if_pos c24] at H
           have c24b0 : decide (0 ≤ (ji23)) = true := decide_eq_true c24
           clear c24
           by_cases c25 : (ji23) < 8
           ·rw [if_pos c25] at H
            have c25b0 : decide ((ji23) < 8) = true := decide_eq_true c25
            clear c25
            obtain ⟨y139, hy139⟩ : ∃ y_ : List Int, y_ = (([92, bt (⟨#[48, 49, 50, 51, 52, 53, 54, 55]⟩ : ByteArray) (ji15), bt (⟨#[48, 49, 50, 51, 52, 53, 54, 55]⟩ : ByteArray) (ji19), bt (⟨#[48, 49, 50, 51, 52, 53, 54, 55]⟩ : ByteArray) (ji23)] : List Int)) := ⟨_, rfl⟩
            replace H : (some (strOfNums y139)) = some r := by first | (rw [hy139]; with_reducible exact H) | (have H2_ := (Option.bind_some _ _).symm.trans H; rw [hy139]; with_reducible exact H2_) | (have H2_ := (Option.bind_some _ _).symm.trans H; with_reducible exact H2_) | with_reducible exact H | (rw [hy139]; exact H) | exact H
            have Ny139 := Aside0.mk hy139
            clear hy139
            obtain rfl := Option.some.inj H
            try go_wp2
            have n0_ := Aside0.mk (below_drew1 HB.out)
            clear HB
            have HB := n0_
            clear n0_
            have p18 : 0 ≤ ((ji15) : Int) := ofDec
            have q18 : (ji15) < (8 : Int) := ofDec
            have hx18 := bt_at (⟨#[48, 49, 50, 51, 52, 53, 54, 55]⟩ : ByteArray) (ji15)
            replace p18 := eq_true p18
            replace q18 := eq_true q18
            have p22 : 0 ≤ ((ji19) : Int) := ofDec
            have q22 : (ji19) < (8 : Int) := ofDec
            have hx22 := bt_at (⟨#[48, 49, 50, 51, 52, 53, 54, 55]⟩ : ByteArray) (ji19)
            replace p22 := eq_true p22
            replace q22 := eq_true q22
            have p26 : 0 ≤ ((ji23) : Int) := ofDec
            have q26 : (ji23) < (8 : Int) := ofDec
            have hx26 := bt_at (⟨#[48, 49, 50, 51, 52, 53, 54, 55]⟩ : ByteArray) (ji23)
            replace p26 := eq_true p26
            replace q26 := eq_true q26
            refine start_ (n := 13) (S := fun w' => True) (ds := []) #[false, false, false, false, false, false, false, false, false, false, false, false, false] (by kernel_rfl) rfl rfl trivial (fun hHeld => ?_); refine with_tabW selvageref02_escape.tab9 selvageref02_escape.bits9 (fun HT_ HW_ => ?_)
            generalize wr.drew = w27 at HB hHeld ⊢
            refine pure_ (i := 0) (N := some 29) (v := ?_) (a' := ?_) #[true, false, false, false, false, false, false, false, false, false, false, false, false] rfl rfl (any_of HT_.out (by kernel_rfl)) (fun _ _ _ h => h) (Or.inl ⟨by rfl, ?_⟩) ?_ ?_
            rotate_left
            ·intro w'
             go_simp
             with_reducible rfl
            rotate_left
            ·simp only [Act.put, List.setIfInBounds_toArray, List.set_cons_zero, List.set_cons_succ, i64_w, i32_w]
             rfl
            refine pure_ (i := 1) (N := some 30) (v := ?_) (a' := ?_) #[true, true, false, false, false, false, false, false, false, false, false, false, false] rfl rfl (any_of HT_.out (by kernel_rfl)) (fun _ _ _ h => h) (Or.inl ⟨by rfl, ?_⟩) ?_ ?_
            rotate_left
            ·intro w'
             go_simp
             with_reducible rfl
            rotate_left
            ·simp only [Act.put, List.setIfInBounds_toArray, List.set_cons_zero, List.set_cons_succ, i64_w, i32_w]
             rfl
            refine pure_ (i := 3) (N := some 32) (v := ?_) (a' := ?_) #[true, true, false, true, false, false, false, false, false, false, false, false, false] rfl rfl (any_of HT_.out (by kernel_rfl)) (fun _ _ _ h => h) (Or.inl ⟨by rfl, ?_⟩) ?_ ?_
            rotate_left
            ·intro w'
             go_simp
             with_reducible rfl
            rotate_left
            ·simp only [Act.put, List.setIfInBounds_toArray, List.set_cons_zero, List.set_cons_succ, i64_w, i32_w]
             rfl
            refine pure_ (i := 4) (N := some 33) (v := ?_) (a' := ?_) #[true, true, false, true, true, false, false, false, false, false, false, false, false] rfl rfl (any_of HT_.out (by kernel_rfl)) (fun _ _ _ h => h) (Or.inl ⟨by rfl, ?_⟩) ?_ ?_
            rotate_left
            ·intro w'
             go_simp
             with_reducible rfl
            rotate_left
            ·simp only [Act.put, List.setIfInBounds_toArray, List.set_cons_zero, List.set_cons_succ, i64_w, i32_w]
             rfl
            refine pure_ (i := 5) (N := some 34) (v := ?_) (a' := ?_) #[true, true, false, true, true, true, false, false, false, false, false, false, false] rfl rfl (any_of HT_.out (by kernel_rfl)) (fun _ _ _ h => h) (Or.inl ⟨by rfl, ?_⟩) ?_ ?_
            rotate_left
            ·intro w'
             go_simp
             with_reducible rfl
            rotate_left
            ·simp only [Act.put, List.setIfInBounds_toArray, List.set_cons_zero, List.set_cons_succ, i64_w, i32_w]
             rfl
            refine pure_ (i := 7) (N := some 36) (v := ?_) (a' := ?_) #[true, true, false, true, true, true, false, true, false, false, false, false, false] rfl rfl (any_of HT_.out (by kernel_rfl)) (fun _ _ _ h => h) (Or.inl ⟨by rfl, ?_⟩) ?_ ?_
            rotate_left
            ·intro w'
             go_simp
             with_reducible rfl
            rotate_left
            ·simp only [Act.put, List.setIfInBounds_toArray, List.set_cons_zero, List.set_cons_succ, i64_w, i32_w]
             rfl
            refine pure_ (i := 8) (N := some 37) (v := ?_) (a' := ?_) #[true, true, false, true, true, true, false, true, true, false, false, false, false] rfl rfl (any_of HT_.out (by kernel_rfl)) (fun _ _ _ h => h) (Or.inl ⟨by rfl, ?_⟩) ?_ ?_
            rotate_left
            ·intro w'
             go_simp
             with_reducible rfl
            rotate_left
            ·simp only [Act.put, List.setIfInBounds_toArray, List.set_cons_zero, List.set_cons_succ, i64_w, i32_w]
             rfl
            refine take_ (i := 2) (N := some 31) (v := ?_) (a' := ?_) #[true, true, true, true, true, true, false, true, true, false, false, false, false] rfl rfl (take_ofW HT_.out HW_.out (by kernel_rfl)) (fun _ _ _ h => h) (Or.inl ⟨by rfl, ?_⟩) hHeld ?_ ?_
            rotate_left
            ·intro w' _
             go_simp
             with_reducible rfl
            rotate_left
            ·simp only [Act.put, List.setIfInBounds_toArray, List.set_cons_zero, List.set_cons_succ, i64_w, i32_w]
             rfl
            refine take_ (i := 6) (N := some 35) (v := ?_) (a' := ?_) #[true, true, true, true, true, true, true, true, true, false, false, false, false] rfl rfl (take_ofW HT_.out HW_.out (by kernel_rfl)) (fun _ _ _ h => h) (Or.inl ⟨by rfl, ?_⟩) hHeld ?_ ?_
            rotate_left
            ·intro w' _
             go_simp
             with_reducible rfl
            rotate_left
            ·simp only [Act.put, List.setIfInBounds_toArray, List.set_cons_zero, List.set_cons_succ, i64_w, i32_w]
             rfl
            refine take_ (i := 9) (N := some 38) (v := ?_) (a' := ?_) #[true, true, true, true, true, true, true, true, true, true, false, false, false] rfl rfl (take_ofW HT_.out HW_.out (by kernel_rfl)) (fun _ _ _ h => h) (Or.inl ⟨by rfl, ?_⟩) hHeld ?_ ?_
            rotate_left
            ·intro w' _
             go_simp
             with_reducible rfl
            rotate_left
            ·simp only [Act.put, List.setIfInBounds_toArray, List.set_cons_zero, List.set_cons_succ, i64_w, i32_w]
             rfl
            refine one_ (i := 10) (N := some 39) #[true, true, true, true, true, true, true, true, true, true, true, false, false] rfl rfl (one_of HT_.out (by kernel_rfl)) (by decide) (fun K hK => ?_)
            refine Kd.R_lit_step (Kd.int .u8) _ 5 ?hg (N := 39) ?hd (xs := ([92, bt (⟨#[48, 49, 50, 51, 52, 53, 54, 55]⟩ : ByteArray) (ji15), bt (⟨#[48, 49, 50, 51, 52, 53, 54, 55]⟩ : ByteArray) (ji19), bt (⟨#[48, 49, 50, 51, 52, 53, 54, 55]⟩ : ByteArray) (ji23)] : List Int)) (inner := [.int .u8 92, .int .u8 (bt (⟨#[48, 49, 50, 51, 52, 53, 54, 55]⟩ : ByteArray) (ji15)), .int .u8 (bt (⟨#[48, 49, 50, 51, 52, 53, 54, 55]⟩ : ByteArray) (ji19)), .int .u8 (bt (⟨#[48, 49, 50, 51, 52, 53, 54, 55]⟩ : ByteArray) (ji23))]) (ok := fun _ => True) (okp := fun _ => True) ?hr ?hp (fun _ hk => hk) trivial (Below.refl _ _) (Nat.le_refl _) (by simp) ?_; (case hd => rfl); (case hg => rfl); (case hr => first | (go_simp; done) | (go_simp; rfl)); (case hp => exact (Reps.one (show Kd.M (Kd.int .u8) _ _ _ 92 [.int .u8 92] from rfl) (Reps.one (show Kd.M (Kd.int .u8) _ _ _ (bt (⟨#[48, 49, 50, 51, 52, 53, 54, 55]⟩ : ByteArray) (ji15)) [.int .u8 (bt (⟨#[48, 49, 50, 51, 52, 53, 54, 55]⟩ : ByteArray) (ji15))] from rfl) (Reps.one (show Kd.M (Kd.int .u8) _ _ _ (bt (⟨#[48, 49, 50, 51, 52, 53, 54, 55]⟩ : ByteArray) (ji19)) [.int .u8 (bt (⟨#[48, 49, 50, 51, 52, 53, 54, 55]⟩ : ByteArray) (ji19))] from rfl) (Reps.one (show Kd.M (Kd.int .u8) _ _ _ (bt (⟨#[48, 49, 50, 51, 52, 53, 54, 55]⟩ : ByteArray) (ji23)) [.int .u8 (bt (⟨#[48, 49, 50, 51, 52, 53, 54, 55]⟩ : ByteArray) (ji23))] from rfl) (Reps.none _ _))))))
            intro v140 w28 ho29 hb hg_ hnew_
            clear hg_ hnew_
            (first | rw [← Ny139.out] at ho29 | (simp only [Int.reduceToNat] at ho29; rw [← Ny139.out] at ho29))
            have n0_ := Aside0.mk (Kd.R_lower ho29 (below_size belNow))
            have n1_ := Aside0.mk (below_step belNow hb)
            clear HB
            have HO141 := n0_
            have HB := n1_
            clear n0_ n1_
            clear hb ho29
            refine hK.out _ _ trivial (fun hHeld => ?_)
            clear hK K
            refine norm_ (a' := ?_) ?_ ?_
            rotate_left
            ·show Act.put _ (some 39) _ = _
             simp only [Act.put, List.setIfInBounds_toArray, List.set_cons_zero, List.set_cons_succ, i64_w, i32_w]
             rfl
            refine one_ (i := 11) (N := some 40) #[true, true, true, true, true, true, true, true, true, true, true, true, false] rfl rfl (one_of HT_.out (by kernel_rfl)) (by decide) (fun K hK => ?_)
            have hcv30 := own_string (P := Tryd.prog) Tryd.underlying44 Tryd.underlying5 Tryd.underlying9 (Kd.own_of_R HO141.out)
            refine value_ (w1 := ?_) (v := ?_) (by rfl) rfl ?_ ?_
            rotate_left 2
            ·go_simp
             constructor
             ·rfl
             ·rfl
            clear hcv30
            refine hK.out _ _ trivial (fun hHeld => ?_)
            clear hK K
            refine norm_ (a' := ?_) ?_ ?_
            rotate_left
            ·show Act.put _ (some 40) _ = _
             simp only [Act.put, List.setIfInBounds_toArray, List.set_cons_zero, List.set_cons_succ, i64_w, i32_w]
             rfl
            refine pure_ (i := 12) (N := some 2) (v := ?_) (a' := ?_) #[true, true, true, true, true, true, true, true, true, true, true, true, true] rfl rfl (any_of HT_.out (by kernel_rfl)) (fun _ _ _ h => h) (Or.inl ⟨by rfl, ?_⟩) ?_ ?_
            rotate_left
            ·intro w'
             go_simp
             with_reducible rfl
            rotate_left
            ·simp only [Act.put, List.setIfInBounds_toArray, List.set_cons_zero, List.set_cons_succ, i64_w, i32_w]
             rfl
            refine done_ (done_of HT_.out (by kernel_rfl)) ?_
            try go_wp2
            go_ret
            exact ⟨by first | rfl | (simp [errW_none, errW_some] <;> rfl) | (simp only [← hji15, ← hji19, ← hji23]; first | rfl | (simp [errW_none, errW_some] <;> rfl)) | (simp [*, errW_none, errW_some] <;> rfl) | (simp only [i64_w, i32_w, u8_w]; first | rfl | (simp [errW_none, errW_some] <;> rfl)) | (simp only [bne_nil, beq_nil]; first | rfl | (simp <;> rfl)), belNow⟩
           ·rw [if_neg c25] at H
            exact absurd H (by simp)
          ·rw [if_neg c24] at H
           exact absurd H (by simp)
         ·rw [if_neg c21] at H
          exact absurd H (by simp)
        ·rw [if_neg c20] at H
         exact absurd H (by simp)
       ·rw [if_neg c17] at H
        exact absurd H (by simp)
      ·rw [if_neg c16] at H
       exact absurd H (by simp)
    ·rw [if_neg c10] at H
     have c10b0 : decide (32 ≤ a0) = false := decide_eq_false c10
     clear c10
     obtain ⟨ji31, hji31⟩ : ∃ j_ : Int, (wrap64 (Int.tdiv (wrap64 (a0)) 64)) = j_ := ⟨_, rfl⟩
     replace H : (if 0 ≤ (ji31) then (if (ji31) < 8 then (if 0 ≤ (Int.tmod (wrap64 (Int.tdiv (wrap64 (a0)) 8)) 8) then (if (Int.tmod (wrap64 (Int.tdiv (wrap64 (a0)) 8)) 8) < 8 then (if 0 ≤ (Int.tmod (wrap64 (a0)) 8) then (if (Int.tmod (wrap64 (a0)) 8) < 8 then (some (strOfNums (([92, bt (⟨#[48, 49, 50, 51, 52, 53, 54, 55]⟩ : ByteArray) (ji31), bt (⟨#[48, 49, 50, 51, 52, 53, 54, 55]⟩ : ByteArray) (Int.tmod (wrap64 (Int.tdiv (wrap64 (a0)) 8)) 8), bt (⟨#[48, 49, 50, 51, 52, 53, 54, 55]⟩ : ByteArray) (Int.tmod (wrap64 (a0)) 8)] : List Int)))) else (none)) else (none)) else (none)) else (none)) else (none)) else (none)) = some r := by first | (rw [hji31] at H; exact H) | (simp only [hji31] at H ⊢; exact H)
     have hji31w : (IntKind.i64.wrap (Int.tdiv (wrap64 (a0)) 64)) = ji31 := (i64_w _).trans hji31
     by_cases c32 : 0 ≤ (ji31)
     ·rw [if_pos c32] at H
      have c32b0 : decide (0 ≤ (ji31)) = true := decide_eq_true c32
      clear c32
      by_cases c33 : (ji31) < 8
      ·rw [if_pos c33] at H
       have c33b0 : decide ((ji31) < 8) = true := decide_eq_true c33
       clear c33
       obtain ⟨ji35, hji35⟩ : ∃ j_ : Int, (Int.tmod (wrap64 (Int.tdiv (wrap64 (a0)) 8)) 8) = j_ := ⟨_, rfl⟩
       replace H : (if 0 ≤ (ji35) then (if (ji35) < 8 then (if 0 ≤ (Int.tmod (wrap64 (a0)) 8) then (if (Int.tmod (wrap64 (a0)) 8) < 8 then (some (strOfNums (([92, bt (⟨#[48, 49, 50, 51, 52, 53, 54, 55]⟩ : ByteArray) (ji31), bt (⟨#[48, 49, 50, 51, 52, 53, 54, 55]⟩ : ByteArray) (ji35), bt (⟨#[48, 49, 50, 51, 52, 53, 54, 55]⟩ : ByteArray) (Int.tmod (wrap64 (a0)) 8)] : List Int)))) else (none)) else (none)) else (none)) else (none)) = some r := by first | (rw [hji35] at H; exact H) | (simp only [hji35] at H ⊢; exact H)
       by_cases c36 : 0 ≤ (ji35)
       ·rw [if_pos c36] at H
        have c36b0 : decide (0 ≤ (ji35)) = true := decide_eq_true c36
        clear c36
        by_cases c37 : (ji35) < 8
        ·rw [if_pos c37] at H
         have c37b0 : decide ((ji35) < 8) = true := decide_eq_true c37
         clear c37
         obtain ⟨ji39, hji39⟩ : ∃ j_ : Int, (Int.tmod (wrap64 (a0)) 8) = j_ := ⟨_, rfl⟩
         replace H : (if 0 ≤ (ji39) then (if (ji39) < 8 then (some (strOfNums (([92, bt (⟨#[48, 49, 50, 51, 52, 53, 54, 55]⟩ : ByteArray) (ji31), bt (⟨#[48, 49, 50, 51, 52, 53, 54, 55]⟩ : ByteArray) (ji35), bt (⟨#[48, 49, 50, 51, 52, 53, 54, 55]⟩ : ByteArray) (ji39)] : List Int)))) else (none)) else (none)) = some r := by first | (rw [hji39] at H; exact H) | (simp only [hji39] at H ⊢; exact H)
         by_cases c40 : 0 ≤ (ji39)
         ·rw [if_pos c40] at H
          have c40b0 : decide (0 ≤ (ji39)) = true := decide_eq_true c40
          clear c40
          by_cases c41 : (ji39) < 8
          ·rw [if_pos c41] at H
           have c41b0 : decide ((ji39) < 8) = true := decide_eq_true c41
           clear c41
           obtain ⟨y142, hy142⟩ : ∃ y_ : List Int, y_ = (([92, bt (⟨#[48, 49, 50, 51, 52, 53, 54, 55]⟩ : ByteArray) (ji31), bt (⟨#[48, 49, 50, 51, 52, 53, 54, 55]⟩ : ByteArray) (ji35), bt (⟨#[48, 49, 50, 51, 52, 53, 54, 55]⟩ : ByteArray) (ji39)] : List Int)) := ⟨_, rfl⟩
           replace H : (some (strOfNums y142)) = some r := by first | (rw [hy142]; with_reducible exact H) | (have H2_ := (Option.bind_some _ _).symm.trans H; rw [hy142]; with_reducible exact H2_) | (have H2_ := (Option.bind_some _ _).symm.trans H; with_reducible exact H2_) | with_reducible exact H | (rw [hy142]; exact H) | exact H
           have Ny142 := Aside0.mk hy142
           clear hy142
           obtain rfl := Option.some.inj H
           try go_wp2
           have n0_ := Aside0.mk (below_drew1 HB.out)
           clear HB
           have HB := n0_
           clear n0_
           have p34 : 0 ≤ ((ji31) : Int) := ofDec
           have q34 : (ji31) < (8 : Int) := ofDec
           have hx34 := bt_at (⟨#[48, 49, 50, 51, 52, 53, 54, 55]⟩ : ByteArray) (ji31)
           replace p34 := eq_true p34
           replace q34 := eq_true q34
           have p38 : 0 ≤ ((ji35) : Int) := ofDec
           have q38 : (ji35) < (8 : Int) := ofDec
           have hx38 := bt_at (⟨#[48, 49, 50, 51, 52, 53, 54, 55]⟩ : ByteArray) (ji35)
           replace p38 := eq_true p38
           replace q38 := eq_true q38
           have p42 : 0 ≤ ((ji39) : Int) := ofDec
           have q42 : (ji39) < (8 : Int) := ofDec
           have hx42 := bt_at (⟨#[48, 49, 50, 51, 52, 53, 54, 55]⟩ : ByteArray) (ji39)
           replace p42 := eq_true p42
           replace q42 := eq_true q42
           refine start_ (n := 13) (S := fun w' => True) (ds := []) #[false, false, false, false, false, false, false, false, false, false, false, false, false] (by kernel_rfl) rfl rfl trivial (fun hHeld => ?_); refine with_tabW selvageref02_escape.tab9 selvageref02_escape.bits9 (fun HT_ HW_ => ?_)
           generalize wr.drew = w43 at HB hHeld ⊢
           refine pure_ (i := 0) (N := some 29) (v := ?_) (a' := ?_) #[true, false, false, false, false, false, false, false, false, false, false, false, false] rfl rfl (any_of HT_.out (by kernel_rfl)) (fun _ _ _ h => h) (Or.inl ⟨by rfl, ?_⟩) ?_ ?_
           rotate_left
           ·intro w'
            go_simp
            with_reducible rfl
           rotate_left
           ·simp only [Act.put, List.setIfInBounds_toArray, List.set_cons_zero, List.set_cons_succ, i64_w, i32_w]
            rfl
           refine pure_ (i := 1) (N := some 30) (v := ?_) (a' := ?_) #[true, true, false, false, false, false, false, false, false, false, false, false, false] rfl rfl (any_of HT_.out (by kernel_rfl)) (fun _ _ _ h => h) (Or.inl ⟨by rfl, ?_⟩) ?_ ?_
           rotate_left
           ·intro w'
            go_simp
            with_reducible rfl
           rotate_left
           ·simp only [Act.put, List.setIfInBounds_toArray, List.set_cons_zero, List.set_cons_succ, i64_w, i32_w]
            rfl
           refine pure_ (i := 3) (N := some 32) (v := ?_) (a' := ?_) #[true, true, false, true, false, false, false, false, false, false, false, false, false] rfl rfl (any_of HT_.out (by kernel_rfl)) (fun _ _ _ h => h) (Or.inl ⟨by rfl, ?_⟩) ?_ ?_
           rotate_left
           ·intro w'
            go_simp
            with_reducible rfl
           rotate_left
           ·simp only [Act.put, List.setIfInBounds_toArray, List.set_cons_zero, List.set_cons_succ, i64_w, i32_w]
            rfl
           refine pure_ (i := 4) (N := some 33) (v := ?_) (a' := ?_) #[true, true, false, true, true, false, false, false, false, false, false, false, false] rfl rfl (any_of HT_.out (by kernel_rfl)) (fun _ _ _ h => h) (Or.inl ⟨by rfl, ?_⟩) ?_ ?_
           rotate_left
           ·intro w'
            go_simp
            with_reducible rfl
           rotate_left
           ·simp only [Act.put, List.setIfInBounds_toArray, List.set_cons_zero, List.set_cons_succ, i64_w, i32_w]
            rfl
           refine pure_ (i := 5) (N := some 34) (v := ?_) (a' := ?_) #[true, true, false, true, true, true, false, false, false, false, false, false, false] rfl rfl (any_of HT_.out (by kernel_rfl)) (fun _ _ _ h => h) (Or.inl ⟨by rfl, ?_⟩) ?_ ?_
           rotate_left
           ·intro w'
            go_simp
            with_reducible rfl
           rotate_left
           ·simp only [Act.put, List.setIfInBounds_toArray, List.set_cons_zero, List.set_cons_succ, i64_w, i32_w]
            rfl
           refine pure_ (i := 7) (N := some 36) (v := ?_) (a' := ?_) #[true, true, false, true, true, true, false, true, false, false, false, false, false] rfl rfl (any_of HT_.out (by kernel_rfl)) (fun _ _ _ h => h) (Or.inl ⟨by rfl, ?_⟩) ?_ ?_
           rotate_left
           ·intro w'
            go_simp
            with_reducible rfl
           rotate_left
           ·simp only [Act.put, List.setIfInBounds_toArray, List.set_cons_zero, List.set_cons_succ, i64_w, i32_w]
            rfl
           refine pure_ (i := 8) (N := some 37) (v := ?_) (a' := ?_) #[true, true, false, true, true, true, false, true, true, false, false, false, false] rfl rfl (any_of HT_.out (by kernel_rfl)) (fun _ _ _ h => h) (Or.inl ⟨by rfl, ?_⟩) ?_ ?_
           rotate_left
           ·intro w'
            go_simp
            with_reducible rfl
           rotate_left
           ·simp only [Act.put, List.setIfInBounds_toArray, List.set_cons_zero, List.set_cons_succ, i64_w, i32_w]
            rfl
           refine take_ (i := 2) (N := some 31) (v := ?_) (a' := ?_) #[true, true, true, true, true, true, false, true, true, false, false, false, false] rfl rfl (take_ofW HT_.out HW_.out (by kernel_rfl)) (fun _ _ _ h => h) (Or.inl ⟨by rfl, ?_⟩) hHeld ?_ ?_
           rotate_left
           ·intro w' _
            go_simp
            with_reducible rfl
           rotate_left
           ·simp only [Act.put, List.setIfInBounds_toArray, List.set_cons_zero, List.set_cons_succ, i64_w, i32_w]
            rfl
           refine take_ (i := 6) (N := some 35) (v := ?_) (a' := ?_) #[true, true, true, true, true, true, true, true, true, false, false, false, false] rfl rfl (take_ofW HT_.out HW_.out (by kernel_rfl)) (fun _ _ _ h => h) (Or.inl ⟨by rfl, ?_⟩) hHeld ?_ ?_
           rotate_left
           ·intro w' _
            go_simp
            with_reducible rfl
           rotate_left
           ·simp only [Act.put, List.setIfInBounds_toArray, List.set_cons_zero, List.set_cons_succ, i64_w, i32_w]
            rfl
           refine take_ (i := 9) (N := some 38) (v := ?_) (a' := ?_) #[true, true, true, true, true, true, true, true, true, true, false, false, false] rfl rfl (take_ofW HT_.out HW_.out (by kernel_rfl)) (fun _ _ _ h => h) (Or.inl ⟨by rfl, ?_⟩) hHeld ?_ ?_
           rotate_left
           ·intro w' _
            go_simp
            with_reducible rfl
           rotate_left
           ·simp only [Act.put, List.setIfInBounds_toArray, List.set_cons_zero, List.set_cons_succ, i64_w, i32_w]
            rfl
           refine one_ (i := 10) (N := some 39) #[true, true, true, true, true, true, true, true, true, true, true, false, false] rfl rfl (one_of HT_.out (by kernel_rfl)) (by decide) (fun K hK => ?_)
           refine Kd.R_lit_step (Kd.int .u8) _ 5 ?hg (N := 39) ?hd (xs := ([92, bt (⟨#[48, 49, 50, 51, 52, 53, 54, 55]⟩ : ByteArray) (ji31), bt (⟨#[48, 49, 50, 51, 52, 53, 54, 55]⟩ : ByteArray) (ji35), bt (⟨#[48, 49, 50, 51, 52, 53, 54, 55]⟩ : ByteArray) (ji39)] : List Int)) (inner := [.int .u8 92, .int .u8 (bt (⟨#[48, 49, 50, 51, 52, 53, 54, 55]⟩ : ByteArray) (ji31)), .int .u8 (bt (⟨#[48, 49, 50, 51, 52, 53, 54, 55]⟩ : ByteArray) (ji35)), .int .u8 (bt (⟨#[48, 49, 50, 51, 52, 53, 54, 55]⟩ : ByteArray) (ji39))]) (ok := fun _ => True) (okp := fun _ => True) ?hr ?hp (fun _ hk => hk) trivial (Below.refl _ _) (Nat.le_refl _) (by simp) ?_; (case hd => rfl); (case hg => rfl); (case hr => first | (go_simp; done) | (go_simp; rfl)); (case hp => exact (Reps.one (show Kd.M (Kd.int .u8) _ _ _ 92 [.int .u8 92] from rfl) (Reps.one (show Kd.M (Kd.int .u8) _ _ _ (bt (⟨#[48, 49, 50, 51, 52, 53, 54, 55]⟩ : ByteArray) (ji31)) [.int .u8 (bt (⟨#[48, 49, 50, 51, 52, 53, 54, 55]⟩ : ByteArray) (ji31))] from rfl) (Reps.one (show Kd.M (Kd.int .u8) _ _ _ (bt (⟨#[48, 49, 50, 51, 52, 53, 54, 55]⟩ : ByteArray) (ji35)) [.int .u8 (bt (⟨#[48, 49, 50, 51, 52, 53, 54, 55]⟩ : ByteArray) (ji35))] from rfl) (Reps.one (show Kd.M (Kd.int .u8) _ _ _ (bt (⟨#[48, 49, 50, 51, 52, 53, 54, 55]⟩ : ByteArray) (ji39)) [.int .u8 (bt (⟨#[48, 49, 50, 51, 52, 53, 54, 55]⟩ : ByteArray) (ji39))] from rfl) (Reps.none _ _))))))
           intro v143 w44 ho45 hb hg_ hnew_
           clear hg_ hnew_
           (first | rw [← Ny142.out] at ho45 | (simp only [Int.reduceToNat] at ho45; rw [← Ny142.out] at ho45))
           have n0_ := Aside0.mk (Kd.R_lower ho45 (below_size belNow))
           have n1_ := Aside0.mk (below_step belNow hb)
           clear HB
           have HO144 := n0_
           have HB := n1_
           clear n0_ n1_
           clear hb ho45
           refine hK.out _ _ trivial (fun hHeld => ?_)
           clear hK K
           refine norm_ (a' := ?_) ?_ ?_
           rotate_left
           ·show Act.put _ (some 39) _ = _
            simp only [Act.put, List.setIfInBounds_toArray, List.set_cons_zero, List.set_cons_succ, i64_w, i32_w]
            rfl
           refine one_ (i := 11) (N := some 40) #[true, true, true, true, true, true, true, true, true, true, true, true, false] rfl rfl (one_of HT_.out (by kernel_rfl)) (by decide) (fun K hK => ?_)
           have hcv46 := own_string (P := Tryd.prog) Tryd.underlying44 Tryd.underlying5 Tryd.underlying9 (Kd.own_of_R HO144.out)
           refine value_ (w1 := ?_) (v := ?_) (by rfl) rfl ?_ ?_
           rotate_left 2
           ·go_simp
            constructor
            ·rfl
            ·rfl
           clear hcv46
           refine hK.out _ _ trivial (fun hHeld => ?_)
           clear hK K
           refine norm_ (a' := ?_) ?_ ?_
           rotate_left
           ·show Act.put _ (some 40) _ = _
            simp only [Act.put, List.setIfInBounds_toArray, List.set_cons_zero, List.set_cons_succ, i64_w, i32_w]
            rfl
           refine pure_ (i := 12) (N := some 2) (v := ?_) (a' := ?_) #[true, true, true, true, true, true, true, true, true, true, true, true, true] rfl rfl (any_of HT_.out (by kernel_rfl)) (fun _ _ _ h => h) (Or.inl ⟨by rfl, ?_⟩) ?_ ?_
           rotate_left
           ·intro w'
            go_simp
            with_reducible rfl
           rotate_left
           ·simp only [Act.put, List.setIfInBounds_toArray, List.set_cons_zero, List.set_cons_succ, i64_w, i32_w]
            rfl
           refine done_ (done_of HT_.out (by kernel_rfl)) ?_
           try go_wp2
           go_ret
           exact ⟨by first | rfl | (simp [errW_none, errW_some] <;> rfl) | (simp only [← hji31, ← hji35, ← hji39]; first | rfl | (simp [errW_none, errW_some] <;> rfl)) | (simp [*, errW_none, errW_some] <;> rfl) | (simp only [i64_w, i32_w, u8_w]; first | rfl | (simp [errW_none, errW_some] <;> rfl)) | (simp only [bne_nil, beq_nil]; first | rfl | (simp <;> rfl)), belNow⟩
          ·rw [if_neg c41] at H
           exact absurd H (by simp)
         ·rw [if_neg c40] at H
          exact absurd H (by simp)
        ·rw [if_neg c37] at H
         exact absurd H (by simp)
       ·rw [if_neg c36] at H
        exact absurd H (by simp)
      ·rw [if_neg c33] at H
       exact absurd H (by simp)
     ·rw [if_neg c32] at H
      exact absurd H (by simp)
def selvageref02_Quote.l0 : Nat → ByteArray → List Int → Int → Option (ByteArray)
 | 0, _, _, _ => none
 | k + 1, x0, x3, x4 => if x4 < (x0.size : Int) then (if 0 ≤ x4 then ((selvageref02_escape.f k (bt x0 x4)).bind fun t149 => (if x3.length + t149.size < 140737488355328 then (selvageref02_Quote.l0 k x0 (x3 ++ bytesOf t149) (wrap64 (x4 + 1))) else (none))) else (none)) else (if x3.length < 140737488355328 then (some (strOfNums (x3 ++ [34]))) else (none))
def selvageref02_Quote.f (k : Nat) (a0 : ByteArray) : Option (ByteArray) := (selvageref02_Needs.f k a0).bind fun t145 => (if t145 = true then (selvageref02_Quote.l0 k a0 (([34] : List Int)) 0) else (some a0))
theorem selvageref02_Quote.mono_l : ∀ k, (∀ y0 y1 y2, LeO (selvageref02_Quote.l0 k y0 y1 y2) (selvageref02_Quote.l0 (k + 1) y0 y1 y2))
 | 0 => fun _ _ _ r h => by simp [selvageref02_Quote.l0] at h
 | k + 1 => by
  have ih0 := selvageref02_Quote.mono_l k
  ·intro y0 y1 y2
   unfold selvageref02_Quote.l0
   repeat' first
   | (with_reducible exact ih0 _ _ _)
   | (with_reducible exact selvageref02_Needs.mono _ _)
   | (with_reducible exact selvageref02_escape.mono _ _)
   | (with_reducible exact LeO.refl _)
   | (with_reducible exact LeO.none _)
   | (with_reducible refine LeO.ite ?_ ?_)
   | (with_reducible refine LeO.bind ?_ (fun _ => ?_))
   | exact ih0 _ _ _
   | exact selvageref02_Needs.mono _ _
   | exact selvageref02_escape.mono _ _
   | exact LeO.none _
   | refine LeO.ite ?_ ?_
   | refine LeO.bind ?_ (fun _ => ?_)
theorem selvageref02_Quote.mono : ∀ a0 k, LeO (selvageref02_Quote.f k a0) (selvageref02_Quote.f (k + 1) a0) := by
 intro a0 k
 have ih0 := selvageref02_Quote.mono_l k
 unfold selvageref02_Quote.f
 repeat' first
   | (with_reducible exact ih0 _ _ _)
   | (with_reducible exact selvageref02_Needs.mono _ _)
   | (with_reducible exact selvageref02_escape.mono _ _)
   | (with_reducible exact LeO.refl _)
   | (with_reducible exact LeO.none _)
   | (with_reducible refine LeO.ite ?_ ?_)
   | (with_reducible refine LeO.bind ?_ (fun _ => ?_))
   | exact ih0 _ _ _
   | exact selvageref02_Needs.mono _ _
   | exact selvageref02_escape.mono _ _
   | exact LeO.none _
   | refine LeO.ite ?_ ?_
   | refine LeO.bind ?_ (fun _ => ?_)
set_option maxHeartbeats 8000000 in
set_option maxRecDepth 100000 in
theorem selvageref02_Quote.calls (k : Nat) (a0 : ByteArray) (r : ByteArray) (w : World) (h : selvageref02_Quote.f k a0 = some r) :
  Calls Tryd.prog 35 #[.string a0] w fun e w' => e = .returned (.string r) ∧ Below w.heap.size w w' := by
 have HB := Aside0.mk (Below.refl w.heap.size w)
 have H : ((selvageref02_Needs.f k a0).bind fun t145 => (if t145 = true then (selvageref02_Quote.l0 k a0 (([34] : List Int)) 0) else (some a0))) = some r := h
 clear h
 replace H := Option.bind_eq_some_iff.mp H
 obtain ⟨t145, A20, H⟩ := H
 replace H : (if t145 = true then (selvageref02_Quote.l0 k a0 (([34] : List Int)) 0) else (some a0)) = some r := H
 have A2 := Aside0.mk A20
 clear A20
 by_cases c3 : t145 = true
 ·subst c3
  have H1 : (selvageref02_Quote.l0 k a0 (([34] : List Int)) 0) = some r := by rw [if_pos rfl] at H; exact H
  clear H
  have H := H1
  clear H1
  obtain ⟨y146, hy146⟩ : ∃ y_ : List Int, y_ = (([34] : List Int)) := ⟨_, rfl⟩
  replace H : (selvageref02_Quote.l0 k a0 y146 0) = some r := by first | (rw [hy146]; with_reducible exact H) | (have H2_ := (Option.bind_some _ _).symm.trans H; rw [hy146]; with_reducible exact H2_) | (have H2_ := (Option.bind_some _ _).symm.trans H; with_reducible exact H2_) | with_reducible exact H | (rw [hy146]; exact H) | exact H
  have Ny146 := Aside0.mk hy146
  clear hy146
  have H' := Aside0.mk H
  clear H
  go_enter Tryd.func35, Tryd.ntmps35
  go_wp2_with (first | ((with_reducible refine gate_callee (f := 49) rfl ?_); refine goesL_ (some 6) rfl rfl Tryd.func49 (by kernel_rfl) rfl #[.string a0] rfl argsOk ?_; (with_reducible refine (selvageref02_Needs.calls k a0 true _ A2.out).mono ?_); rintro e w' ⟨rfl, ⟨nd, rfl⟩⟩; refine ⟨_, rfl, ?_⟩) | ((with_reducible refine gate_dst (N := 9) rfl ?_); refine Kd.R_lit (Kd.int .u8) _ 5 ?hg (N := 9) ?hd (xs := ([34] : List Int)) (inner := [.int .u8 34]) (ok := fun _ => True) (okp := fun _ => True) ?hr ?hp (fun _ hk => hk) trivial (Below.refl _ _) (Nat.le_refl _) (by simp) ?_; (case hd => rfl); (case hg => rfl); (case hr => first | (go_simp; done) | (go_simp; rfl)); (case hp => exact (Reps.one (show Kd.M (Kd.int .u8) _ _ _ 34 [.int .u8 34] from rfl) (Reps.none _ _))); intro v147 w4 ho5 hb hg_ hnew_; clear hg_ hnew_; (first | rw [← Ny146.out] at ho5 | (simp only [Int.reduceToNat] at ho5; rw [← Ny146.out] at ho5)); have n0_ := Aside0.mk (Kd.R_lower ho5 (below_size belNow)); have n1_ := Aside0.mk (below_step belNow hb); clear HB; have HO148 := n0_; have HB := n1_; clear n0_ n1_; clear hb ho5))
  go_loopg [3, 4] k (fun kq v3 v4 w' => ∃ (x3_1 : List Int) (x4_1 : Int), v4 = .int .i64 x4_1 ∧ Aside0 (selvageref02_Quote.l0 kq a0 x3_1 x4_1 = some r) ∧ Aside0 (kq ≤ k) ∧ Aside0 (Kd.R (Kd.int .u8) 5 w' w.heap.size (fun _ => True) v3 x3_1) ∧ Aside0 (Below w.heap.size w w'))
  case atStart => exact ⟨(y146), (0), eqNow, H', ⟨Nat.le_refl _⟩, ⟨by (with_reducible repeat (first | apply Kd.R_alloc | apply Kd.R_drewN | apply Kd.R_drew)); (first | exact HO148.out | exact Kd.R_mono HO148.out (fun k_ h_ h2_ => h_ (h2_.trans ((fun (A_ : Option Addr) (n_ m_ c_ : Nat) => (show (Value.slice A_ n_ c_).ownBlock = (Value.slice A_ m_ c_).ownBlock by cases A_ <;> rfl)) _ _ _ _))))⟩, ⟨belNow⟩⟩
  case round =>
   clear H'
   try clear p2
   try clear c3
   try clear c4
   obtain ⟨x3_1, x4_1, rfl, HA, HK1, HO_3, HB⟩ := hrel
   cases gk with
   | zero => exact absurd HA.out (by simp [selvageref02_Quote.l0])
   | succ k1 =>
    have H := HA.out
    clear HA
    simp only [selvageref02_Quote.l0] at H
    by_cases c6 : x4_1 < (a0.size : Int)
    ·rw [if_pos c6] at H
     have c6b0 : decide (x4_1 < (a0.size : Int)) = true := decide_eq_true c6
     clear c6
     by_cases c7 : 0 ≤ x4_1
     ·rw [if_pos c7] at H
      have c7b0 : decide (0 ≤ x4_1) = true := decide_eq_true c7
      clear c7
      replace H := Option.bind_eq_some_iff.mp H
      obtain ⟨t149, A90, H⟩ := H
      replace H : (if x3_1.length + t149.size < 140737488355328 then (selvageref02_Quote.l0 k1 a0 (x3_1 ++ bytesOf t149) (wrap64 (x4_1 + 1))) else (none)) = some r := H
      have A9 := Aside0.mk A90
      clear A90
      by_cases c10 : x3_1.length + t149.size < 140737488355328
      ·rw [if_pos c10] at H
       have LMc10 := Aside0.mk c10
       clear c10
       obtain ⟨y150, hy150⟩ : ∃ y_ : List Int, y_ = (x3_1 ++ bytesOf t149) := ⟨_, rfl⟩
       replace H : (selvageref02_Quote.l0 k1 a0 y150 (wrap64 (x4_1 + 1))) = some r := by first | (rw [hy150]; with_reducible exact H) | (have H2_ := (Option.bind_some _ _).symm.trans H; rw [hy150]; with_reducible exact H2_) | (have H2_ := (Option.bind_some _ _).symm.trans H; with_reducible exact H2_) | with_reducible exact H | (rw [hy150]; exact H) | exact H
       have Ny150 := Aside0.mk hy150
       clear hy150
       have H' := Aside0.mk H
       clear H
       have p8 : 0 ≤ (x4_1 : Int) := ofDec
       have q8 : x4_1 < (a0.size : Int) := ofDec
       have hx8 := bt_at a0 x4_1
       replace p8 := eq_true p8
       replace q8 := eq_true q8
       go_wp2_with (first | ((with_reducible refine gate_callee (f := 50) rfl ?_); refine goesL_ (some 20) rfl rfl Tryd.func50 (by kernel_rfl) rfl #[.int .u8 (bt a0 x4_1)] rfl argsOk ?_; (with_reducible refine (selvageref02_escape.calls k1 (bt a0 x4_1) t149 _ A9.out).mono ?_); rintro e w11 ⟨rfl, hb⟩; refine ⟨_, rfl, ?_⟩; have n0_ := Aside0.mk (Kd.R_below (kdUp HO_3.out) hb); have n1_ := Aside0.mk (below_step belNow hb); clear HO_3; clear HB; have HO_3 := n0_; have HB := n1_; clear n0_ n1_; (try clear hb); (try clear hb2); (try clear hk); (try clear hi)) | (at_builtin; refine print_append_str (w0 := w) w.heap.size rfl (.tmp 16) _ 44 9 5 rfl Tryd.underlying44 Tryd.underlying9 info5 u3 x3_1 t149 rfl rfl ?aO ?aB ?aS ?aL ?_; (case aB => exact belNow); (case aO => exact (Kd.own_of_R (kdUp HO_3.out))); (case aS => exact (below_size belNow)); (case aL => have := LMc10.out; omega); intro v151 w12 ho0 hb hg; have ho := Kd.R_of_own (h1 := fun _ => rfl) (ok := fun _ => True) ho0 (fun _ _ => trivial); clear ho0; have hat := True.intro; rw [← Ny150.out] at ho; change Kd.R (Kd.int .u8) 5 w12 w.heap.size (fun _ => True) v151 y150 at ho; have n0_ := Aside0.mk (hb); have n1_ := Aside0.mk (ho); clear HB; clear HO_3; have HB := n0_; have HO152 := n1_; clear n0_ n1_; clear ho hb hg hat))
       go_roundg k1
       case measure => have := HK1.out; omega
       case rel => exact ⟨(y150), (wrap64 (x4_1 + 1)), eqNow, H', ⟨by have := HK1.out; omega⟩, ⟨by (with_reducible repeat (first | apply Kd.R_alloc | apply Kd.R_drewN | apply Kd.R_drew)); (first | exact HO152.out | exact Kd.R_mono HO152.out (fun k_ h_ h2_ => h_ (h2_.trans ((fun (A_ : Option Addr) (n_ m_ c_ : Nat) => (show (Value.slice A_ n_ c_).ownBlock = (Value.slice A_ m_ c_).ownBlock by cases A_ <;> rfl)) _ _ _ _))))⟩, ⟨belNow⟩⟩
      ·rw [if_neg c10] at H
       exact absurd H (by simp)
     ·rw [if_neg c7] at H
      exact absurd H (by simp)
    ·rw [if_neg c6] at H
     have c6b0 : decide (x4_1 < (a0.size : Int)) = false := decide_eq_false c6
     clear c6
     by_cases c13 : x3_1.length < 140737488355328
     ·rw [if_pos c13] at H
      have LMc13 := Aside0.mk c13
      clear c13
      obtain ⟨y153, hy153⟩ : ∃ y_ : List Int, y_ = (x3_1 ++ [34]) := ⟨_, rfl⟩
      replace H : (some (strOfNums y153)) = some r := by first | (rw [hy153]; with_reducible exact H) | (have H2_ := (Option.bind_some _ _).symm.trans H; rw [hy153]; with_reducible exact H2_) | (have H2_ := (Option.bind_some _ _).symm.trans H; with_reducible exact H2_) | with_reducible exact H | (rw [hy153]; exact H) | exact H
      have Ny153 := Aside0.mk hy153
      clear hy153
      obtain rfl := Option.some.inj H
      go_wp2_with (first | ((with_reducible refine gate_builtin (b := .append) (xs := #[.tmp 22, .tmp 23]) rfl ?_); at_builtin; refine Kd.R_append (Kd.int .u8) (w0 := w) w.heap.size rfl (.tmp 22) (.tmp 23) 44 5 (.int .u8 0) 1 rfl Tryd.underlying44 info5 rfl (by decide) (by omega) u3 x3_1 34 [.int .u8 34] (fun _ => True) (fun _ => False) rfl rfl ?aP (fun _ hk => hk.elim) ?aF ?aO ?aB ?aS ?aL ?_; (case aP => exact rfl); (case aB => exact belNow); (case aF => exact (fun _ _ => trivial)); (case aO => exact (kdUp HO_3.out)); (case aS => exact (below_size belNow)); (case aL => have := LMc13.out; omega); intro v154 w14 ho hb hg hat; rw [← Ny153.out] at ho; have n0_ := Aside0.mk (hb); have n1_ := Aside0.mk (ho); clear HB; clear HO_3; have HB := n0_; have HO155 := n1_; clear n0_ n1_; clear ho hb hg hat; have hcv15 := own_string (P := Tryd.prog) Tryd.underlying44 Tryd.underlying5 Tryd.underlying9 (Kd.own_of_R HO155.out); have hcq15 := fun n_ : Nat => own_string (P := Tryd.prog) Tryd.underlying44 Tryd.underlying5 Tryd.underlying9 (Kd.own_of_R (Kd.R_drewN HO155.out n_))))
      go_ret
      exact ⟨eqEnd, belNow⟩
     ·rw [if_neg c13] at H
      exact absurd H (by simp)
 ·replace c3 := Bool.eq_false_iff.mpr c3
  subst c3
  have H1 : (some a0) = some r := by rw [if_neg (show ¬ (false = true) by decide)] at H; exact H
  clear H
  have H := H1
  clear H1
  obtain rfl := Option.some.inj H
  go_enter Tryd.func35, Tryd.ntmps35
  go_wp2_with (first | ((with_reducible refine gate_callee (f := 49) rfl ?_); refine goesL_ (some 6) rfl rfl Tryd.func49 (by kernel_rfl) rfl #[.string a0] rfl argsOk ?_; (with_reducible refine (selvageref02_Needs.calls k a0 false _ A2.out).mono ?_); rintro e w' ⟨rfl, ⟨nd, rfl⟩⟩; refine ⟨_, rfl, ?_⟩))
  go_ret
  exact ⟨eqEnd, belNow⟩
def selvageref27_line.f (k : Nat) (a0_0 : Int) (a0_1 : ByteArray) (a0_2 : ByteArray) : Option (ByteArray) := (selvageref02_Quote.f k a0_1).bind fun t157 => (if a0_0 = 1 then (if 7 + t157.size ≤ 9223372036854775807 then (if 7 + t157.size + 1 ≤ 9223372036854775807 then ((selvageref02_Quote.f k a0_2).bind fun t158 => (if 7 + t157.size + 1 + t158.size ≤ 9223372036854775807 then (if 7 + t157.size + 1 + t158.size + 1 ≤ 9223372036854775807 then (some (((((⟨#[114, 101, 110, 97, 109, 101, 32]⟩ : ByteArray) ++ t157) ++ (⟨#[9]⟩ : ByteArray)) ++ t158) ++ (⟨#[10]⟩ : ByteArray))) else (none)) else (none))) else (none)) else (none)) else (if a0_0 = 2 then (if 7 + t157.size ≤ 9223372036854775807 then (if 7 + t157.size + 1 ≤ 9223372036854775807 then (some (((⟨#[114, 101, 109, 111, 118, 101, 32]⟩ : ByteArray) ++ t157) ++ (⟨#[10]⟩ : ByteArray))) else (none)) else (none)) else (if 6 + t157.size ≤ 9223372036854775807 then (if 6 + t157.size + 1 ≤ 9223372036854775807 then (some (((⟨#[112, 114, 117, 110, 101, 32]⟩ : ByteArray) ++ t157) ++ (⟨#[10]⟩ : ByteArray))) else (none)) else (none))))
theorem selvageref27_line.mono : ∀ a0 a1 a2 k, LeO (selvageref27_line.f k a0 a1 a2) (selvageref27_line.f (k + 1) a0 a1 a2) := by
 intro a0 a1 a2 k
 unfold selvageref27_line.f
 repeat' first
   | (with_reducible exact selvageref02_Quote.mono _ _)
   | (with_reducible exact LeO.refl _)
   | (with_reducible exact LeO.none _)
   | (with_reducible refine LeO.ite ?_ ?_)
   | (with_reducible refine LeO.bind ?_ (fun _ => ?_))
   | exact selvageref02_Quote.mono _ _
   | exact LeO.none _
   | refine LeO.ite ?_ ?_
   | refine LeO.bind ?_ (fun _ => ?_)
set_option maxHeartbeats 8000000 in
set_option maxRecDepth 100000 in
theorem selvageref27_line.calls (k : Nat) (a0_0 : Int) (a0_1 : ByteArray) (a0_2 : ByteArray) (r : ByteArray) (w : World) (h : selvageref27_line.f k a0_0 a0_1 a0_2 = some r) :
  Calls Tryd.prog 20 #[.agg #[.int .i64 a0_0, .string a0_1, .string a0_2]] w fun e w' => e = .returned (.string r) ∧ Below w.heap.size w w' := by
 have hu32 := Tryd.underlying32
 have HB := Aside0.mk (Below.refl w.heap.size w)
 have H : ((selvageref02_Quote.f k a0_1).bind fun t157 => (if a0_0 = 1 then (if 7 + t157.size ≤ 9223372036854775807 then (if 7 + t157.size + 1 ≤ 9223372036854775807 then ((selvageref02_Quote.f k a0_2).bind fun t158 => (if 7 + t157.size + 1 + t158.size ≤ 9223372036854775807 then (if 7 + t157.size + 1 + t158.size + 1 ≤ 9223372036854775807 then (some (((((⟨#[114, 101, 110, 97, 109, 101, 32]⟩ : ByteArray) ++ t157) ++ (⟨#[9]⟩ : ByteArray)) ++ t158) ++ (⟨#[10]⟩ : ByteArray))) else (none)) else (none))) else (none)) else (none)) else (if a0_0 = 2 then (if 7 + t157.size ≤ 9223372036854775807 then (if 7 + t157.size + 1 ≤ 9223372036854775807 then (some (((⟨#[114, 101, 109, 111, 118, 101, 32]⟩ : ByteArray) ++ t157) ++ (⟨#[10]⟩ : ByteArray))) else (none)) else (none)) else (if 6 + t157.size ≤ 9223372036854775807 then (if 6 + t157.size + 1 ≤ 9223372036854775807 then (some (((⟨#[112, 114, 117, 110, 101, 32]⟩ : ByteArray) ++ t157) ++ (⟨#[10]⟩ : ByteArray))) else (none)) else (none))))) = some r := h
 clear h
 replace H := Option.bind_eq_some_iff.mp H
 obtain ⟨t157, A20, H⟩ := H
 replace H : (if a0_0 = 1 then (if 7 + t157.size ≤ 9223372036854775807 then (if 7 + t157.size + 1 ≤ 9223372036854775807 then ((selvageref02_Quote.f k a0_2).bind fun t158 => (if 7 + t157.size + 1 + t158.size ≤ 9223372036854775807 then (if 7 + t157.size + 1 + t158.size + 1 ≤ 9223372036854775807 then (some (((((⟨#[114, 101, 110, 97, 109, 101, 32]⟩ : ByteArray) ++ t157) ++ (⟨#[9]⟩ : ByteArray)) ++ t158) ++ (⟨#[10]⟩ : ByteArray))) else (none)) else (none))) else (none)) else (none)) else (if a0_0 = 2 then (if 7 + t157.size ≤ 9223372036854775807 then (if 7 + t157.size + 1 ≤ 9223372036854775807 then (some (((⟨#[114, 101, 109, 111, 118, 101, 32]⟩ : ByteArray) ++ t157) ++ (⟨#[10]⟩ : ByteArray))) else (none)) else (none)) else (if 6 + t157.size ≤ 9223372036854775807 then (if 6 + t157.size + 1 ≤ 9223372036854775807 then (some (((⟨#[112, 114, 117, 110, 101, 32]⟩ : ByteArray) ++ t157) ++ (⟨#[10]⟩ : ByteArray))) else (none)) else (none)))) = some r := H
 have A2 := Aside0.mk A20
 clear A20
 by_cases c3 : a0_0 = 1
 ·rw [if_pos c3] at H
  have c3b0 : (a0_0 == 1) = true := beq_iff_eq.mpr c3
  have c3b1 : (a0_0 != 1) = false := bne_eq_false_iff_eq.mpr c3
  clear c3
  by_cases c4 : 7 + t157.size ≤ 9223372036854775807
  ·rw [if_pos c4] at H
   have c4b0 := eq_true c4
   have c4b1 : decide (7 + t157.size ≤ 9223372036854775807) = true := decide_eq_true c4
   try have c4b2 : (9223372036854775807 < 7 + t157.size) = False := eq_false (Nat.not_lt.2 c4)
   by_cases c5 : 7 + t157.size + 1 ≤ 9223372036854775807
   ·rw [if_pos c5] at H
    have c5b0 := eq_true c5
    have c5b1 : decide (7 + t157.size + 1 ≤ 9223372036854775807) = true := decide_eq_true c5
    try have c5b2 : (9223372036854775807 < 7 + t157.size + 1) = False := eq_false (Nat.not_lt.2 c5)
    replace H := Option.bind_eq_some_iff.mp H
    obtain ⟨t158, A60, H⟩ := H
    replace H : (if 7 + t157.size + 1 + t158.size ≤ 9223372036854775807 then (if 7 + t157.size + 1 + t158.size + 1 ≤ 9223372036854775807 then (some (((((⟨#[114, 101, 110, 97, 109, 101, 32]⟩ : ByteArray) ++ t157) ++ (⟨#[9]⟩ : ByteArray)) ++ t158) ++ (⟨#[10]⟩ : ByteArray))) else (none)) else (none)) = some r := H
    have A6 := Aside0.mk A60
    clear A60
    by_cases c7 : 7 + t157.size + 1 + t158.size ≤ 9223372036854775807
    ·rw [if_pos c7] at H
     have c7b0 := eq_true c7
     have c7b1 : decide (7 + t157.size + 1 + t158.size ≤ 9223372036854775807) = true := decide_eq_true c7
     try have c7b2 : (9223372036854775807 < 7 + t157.size + 1 + t158.size) = False := eq_false (Nat.not_lt.2 c7)
     by_cases c8 : 7 + t157.size + 1 + t158.size + 1 ≤ 9223372036854775807
     ·rw [if_pos c8] at H
      have c8b0 := eq_true c8
      have c8b1 : decide (7 + t157.size + 1 + t158.size + 1 ≤ 9223372036854775807) = true := decide_eq_true c8
      try have c8b2 : (9223372036854775807 < 7 + t157.size + 1 + t158.size + 1) = False := eq_false (Nat.not_lt.2 c8)
      obtain rfl := Option.some.inj H
      go_enter Tryd.func20, Tryd.ntmps20
      go_wp2_with (first | ((with_reducible refine gate_dst (N := 1) rfl ?_); refine box_event ?hg (N := 1) ?hd (cs := #[.int .i64 a0_0, .string a0_1, .string a0_2]) (t := 32) ?hr ?_; (case hd => rfl); (case hg => rfl); (case hr => first | (go_simp; done) | (go_simp; rfl)); intro gb156 hg w9 hbox hb; have n0_ := Aside0.mk (below_step belNow hb); have n1_ := Aside0.mk (hbox); have n2_ := Aside0.mk ((by rw [hg]; exact (below_size belNow) : w.heap.size ≤ gb156)); have n3_ := Aside0.mk ((by rw [hg]; exact (below_size belNow) : w.heap.size ≤ gb156)); clear HB; have HB := n0_; have BK156 := n1_; have GW156 := n2_; have GE156 := n3_; clear n0_ n1_ n2_ n3_; clear hb hbox hg; have hcz10_0 : w9.cell? ⟨gb156, 0, none⟩ = some (.int .i64 a0_0) := (blk_cell BK156.out 0).trans rfl; have hcz10_1 : w9.cell? ⟨gb156, 1, none⟩ = some (.string a0_1) := (blk_cell BK156.out 1).trans rfl; have hcz10_2 : w9.cell? ⟨gb156, 2, none⟩ = some (.string a0_2) := (blk_cell BK156.out 2).trans rfl; have hfz10_0 := blk_frozen BK156.out 0; have hfz10_1 := blk_frozen BK156.out 1; have hfz10_2 := blk_frozen BK156.out 2) | ((with_reducible refine gate_callee (f := 35) rfl ?_); refine goesL_ (some 6) rfl rfl Tryd.func35 (by kernel_rfl) rfl #[.string a0_1] rfl argsOk ?_; (with_reducible refine (selvageref02_Quote.calls k a0_1 t157 _ A2.out).mono ?_); rintro e w11 ⟨rfl, hb⟩; refine ⟨_, rfl, ?_⟩; have n0_ := Aside0.mk (blk_below (g := gb156) (o := .cells #[.int .i64 a0_0, .string a0_1, .string a0_2] 32 (0, 0)) (bkUp BK156.out) hb); have n1_ := Aside0.mk (below_step (belPut) hb); clear BK156; clear HB; have BK156 := n0_; have HB := n1_; clear n0_ n1_; (try clear hb); (try clear hb2); (try clear hk); (try clear hi); have hcz12_0 : w11.cell? ⟨gb156, 0, none⟩ = some (.int .i64 a0_0) := (blk_cell BK156.out 0).trans rfl; have hcz12_1 : w11.cell? ⟨gb156, 1, none⟩ = some (.string a0_1) := (blk_cell BK156.out 1).trans rfl; have hcz12_2 : w11.cell? ⟨gb156, 2, none⟩ = some (.string a0_2) := (blk_cell BK156.out 2).trans rfl; have hfz12_0 := blk_frozen BK156.out 0; have hfz12_1 := blk_frozen BK156.out 1; have hfz12_2 := blk_frozen BK156.out 2) | ((with_reducible refine gate_callee (f := 35) rfl ?_); refine goesL_ (some 16) rfl rfl Tryd.func35 (by kernel_rfl) rfl #[.string a0_2] rfl argsOk ?_; (with_reducible refine (selvageref02_Quote.calls k a0_2 t158 _ A6.out).mono ?_); rintro e w13 ⟨rfl, hb⟩; refine ⟨_, rfl, ?_⟩; have n0_ := Aside0.mk (blk_below (g := gb156) (o := .cells #[.int .i64 a0_0, .string a0_1, .string a0_2] 32 (0, 0)) (bkUp BK156.out) hb); have n1_ := Aside0.mk (below_step (belPut) hb); clear BK156; clear HB; have BK156 := n0_; have HB := n1_; clear n0_ n1_; (try clear hb); (try clear hb2); (try clear hk); (try clear hi)))
      go_ret
      exact ⟨eqEnd, belPut⟩
     ·rw [if_neg c8] at H
      exact absurd H (by simp)
    ·rw [if_neg c7] at H
     exact absurd H (by simp)
   ·rw [if_neg c5] at H
    exact absurd H (by simp)
  ·rw [if_neg c4] at H
   exact absurd H (by simp)
 ·rw [if_neg c3] at H
  have c3b0 : (a0_0 == 1) = false := beq_eq_false_iff_ne.mpr c3
  have c3b1 : (a0_0 != 1) = true := bne_iff_ne.mpr c3
  by_cases c14 : a0_0 = 2
  ·rw [if_pos c14] at H
   have c14b0 : (a0_0 == 2) = true := beq_iff_eq.mpr c14
   have c14b1 : (a0_0 != 2) = false := bne_eq_false_iff_eq.mpr c14
   clear c14
   by_cases c15 : 7 + t157.size ≤ 9223372036854775807
   ·rw [if_pos c15] at H
    have c15b0 := eq_true c15
    have c15b1 : decide (7 + t157.size ≤ 9223372036854775807) = true := decide_eq_true c15
    try have c15b2 : (9223372036854775807 < 7 + t157.size) = False := eq_false (Nat.not_lt.2 c15)
    by_cases c16 : 7 + t157.size + 1 ≤ 9223372036854775807
    ·rw [if_pos c16] at H
     have c16b0 := eq_true c16
     have c16b1 : decide (7 + t157.size + 1 ≤ 9223372036854775807) = true := decide_eq_true c16
     try have c16b2 : (9223372036854775807 < 7 + t157.size + 1) = False := eq_false (Nat.not_lt.2 c16)
     obtain rfl := Option.some.inj H
     go_enter Tryd.func20, Tryd.ntmps20
     go_wp2_with (first | ((with_reducible refine gate_dst (N := 1) rfl ?_); refine box_event ?hg (N := 1) ?hd (cs := #[.int .i64 a0_0, .string a0_1, .string a0_2]) (t := 32) ?hr ?_; (case hd => rfl); (case hg => rfl); (case hr => first | (go_simp; done) | (go_simp; rfl)); intro gb156 hg w17 hbox hb; have n0_ := Aside0.mk (below_step belNow hb); have n1_ := Aside0.mk (hbox); have n2_ := Aside0.mk ((by rw [hg]; exact (below_size belNow) : w.heap.size ≤ gb156)); have n3_ := Aside0.mk ((by rw [hg]; exact (below_size belNow) : w.heap.size ≤ gb156)); clear HB; have HB := n0_; have BK156 := n1_; have GW156 := n2_; have GE156 := n3_; clear n0_ n1_ n2_ n3_; clear hb hbox hg; have hcz18_0 : w17.cell? ⟨gb156, 0, none⟩ = some (.int .i64 a0_0) := (blk_cell BK156.out 0).trans rfl; have hcz18_1 : w17.cell? ⟨gb156, 1, none⟩ = some (.string a0_1) := (blk_cell BK156.out 1).trans rfl; have hcz18_2 : w17.cell? ⟨gb156, 2, none⟩ = some (.string a0_2) := (blk_cell BK156.out 2).trans rfl; have hfz18_0 := blk_frozen BK156.out 0; have hfz18_1 := blk_frozen BK156.out 1; have hfz18_2 := blk_frozen BK156.out 2) | ((with_reducible refine gate_callee (f := 35) rfl ?_); refine goesL_ (some 6) rfl rfl Tryd.func35 (by kernel_rfl) rfl #[.string a0_1] rfl argsOk ?_; (with_reducible refine (selvageref02_Quote.calls k a0_1 t157 _ A2.out).mono ?_); rintro e w19 ⟨rfl, hb⟩; refine ⟨_, rfl, ?_⟩; have n0_ := Aside0.mk (blk_below (g := gb156) (o := .cells #[.int .i64 a0_0, .string a0_1, .string a0_2] 32 (0, 0)) (bkUp BK156.out) hb); have n1_ := Aside0.mk (below_step (belPut) hb); clear BK156; clear HB; have BK156 := n0_; have HB := n1_; clear n0_ n1_; (try clear hb); (try clear hb2); (try clear hk); (try clear hi); have hcz20_0 : w19.cell? ⟨gb156, 0, none⟩ = some (.int .i64 a0_0) := (blk_cell BK156.out 0).trans rfl; have hcz20_1 : w19.cell? ⟨gb156, 1, none⟩ = some (.string a0_1) := (blk_cell BK156.out 1).trans rfl; have hcz20_2 : w19.cell? ⟨gb156, 2, none⟩ = some (.string a0_2) := (blk_cell BK156.out 2).trans rfl; have hfz20_0 := blk_frozen BK156.out 0; have hfz20_1 := blk_frozen BK156.out 1; have hfz20_2 := blk_frozen BK156.out 2))
     go_ret
     exact ⟨eqEnd, belPut⟩
    ·rw [if_neg c16] at H
     exact absurd H (by simp)
   ·rw [if_neg c15] at H
    exact absurd H (by simp)
  ·rw [if_neg c14] at H
   have c14b0 : (a0_0 == 2) = false := beq_eq_false_iff_ne.mpr c14
   have c14b1 : (a0_0 != 2) = true := bne_iff_ne.mpr c14
   by_cases c21 : 6 + t157.size ≤ 9223372036854775807
   ·rw [if_pos c21] at H
    have c21b0 := eq_true c21
    have c21b1 : decide (6 + t157.size ≤ 9223372036854775807) = true := decide_eq_true c21
    try have c21b2 : (9223372036854775807 < 6 + t157.size) = False := eq_false (Nat.not_lt.2 c21)
    by_cases c22 : 6 + t157.size + 1 ≤ 9223372036854775807
    ·rw [if_pos c22] at H
     have c22b0 := eq_true c22
     have c22b1 : decide (6 + t157.size + 1 ≤ 9223372036854775807) = true := decide_eq_true c22
     try have c22b2 : (9223372036854775807 < 6 + t157.size + 1) = False := eq_false (Nat.not_lt.2 c22)
     obtain rfl := Option.some.inj H
     go_enter Tryd.func20, Tryd.ntmps20
     go_wp2_with (first | ((with_reducible refine gate_dst (N := 1) rfl ?_); refine box_event ?hg (N := 1) ?hd (cs := #[.int .i64 a0_0, .string a0_1, .string a0_2]) (t := 32) ?hr ?_; (case hd => rfl); (case hg => rfl); (case hr => first | (go_simp; done) | (go_simp; rfl)); intro gb156 hg w23 hbox hb; have n0_ := Aside0.mk (below_step belNow hb); have n1_ := Aside0.mk (hbox); have n2_ := Aside0.mk ((by rw [hg]; exact (below_size belNow) : w.heap.size ≤ gb156)); have n3_ := Aside0.mk ((by rw [hg]; exact (below_size belNow) : w.heap.size ≤ gb156)); clear HB; have HB := n0_; have BK156 := n1_; have GW156 := n2_; have GE156 := n3_; clear n0_ n1_ n2_ n3_; clear hb hbox hg; have hcz24_0 : w23.cell? ⟨gb156, 0, none⟩ = some (.int .i64 a0_0) := (blk_cell BK156.out 0).trans rfl; have hcz24_1 : w23.cell? ⟨gb156, 1, none⟩ = some (.string a0_1) := (blk_cell BK156.out 1).trans rfl; have hcz24_2 : w23.cell? ⟨gb156, 2, none⟩ = some (.string a0_2) := (blk_cell BK156.out 2).trans rfl; have hfz24_0 := blk_frozen BK156.out 0; have hfz24_1 := blk_frozen BK156.out 1; have hfz24_2 := blk_frozen BK156.out 2) | ((with_reducible refine gate_callee (f := 35) rfl ?_); refine goesL_ (some 6) rfl rfl Tryd.func35 (by kernel_rfl) rfl #[.string a0_1] rfl argsOk ?_; (with_reducible refine (selvageref02_Quote.calls k a0_1 t157 _ A2.out).mono ?_); rintro e w25 ⟨rfl, hb⟩; refine ⟨_, rfl, ?_⟩; have n0_ := Aside0.mk (blk_below (g := gb156) (o := .cells #[.int .i64 a0_0, .string a0_1, .string a0_2] 32 (0, 0)) (bkUp BK156.out) hb); have n1_ := Aside0.mk (below_step (belPut) hb); clear BK156; clear HB; have BK156 := n0_; have HB := n1_; clear n0_ n1_; (try clear hb); (try clear hb2); (try clear hk); (try clear hi); have hcz26_0 : w25.cell? ⟨gb156, 0, none⟩ = some (.int .i64 a0_0) := (blk_cell BK156.out 0).trans rfl; have hcz26_1 : w25.cell? ⟨gb156, 1, none⟩ = some (.string a0_1) := (blk_cell BK156.out 1).trans rfl; have hcz26_2 : w25.cell? ⟨gb156, 2, none⟩ = some (.string a0_2) := (blk_cell BK156.out 2).trans rfl; have hfz26_0 := blk_frozen BK156.out 0; have hfz26_1 := blk_frozen BK156.out 1; have hfz26_2 := blk_frozen BK156.out 2))
     go_ret
     exact ⟨eqEnd, belPut⟩
    ·rw [if_neg c22] at H
     exact absurd H (by simp)
   ·rw [if_neg c21] at H
    exact absurd H (by simp)
def stringslite_HasPrefix.f (a0 : ByteArray) (a1 : ByteArray) : Option (Bool) := if (a0.size : Int) ≥ (a1.size : Int) then (if 0 ≤ (a1.size : Int) then (if (a1.size : Int) ≤ (a0.size : Int) then (some ((a0.extract 0 a1.size).toList == a1.toList)) else (none)) else (none)) else (some false)
set_option maxHeartbeats 8000000 in
set_option maxRecDepth 100000 in
theorem stringslite_HasPrefix.calls (a0 : ByteArray) (a1 : ByteArray) (r : Bool) (w : World) (h : stringslite_HasPrefix.f a0 a1 = some r) :
  Calls Tryd.prog 58 #[.string a0, .string a1] w fun e w' => e = .returned (.bool r) ∧ Drawn0 w w' := by
 have H : (if (a0.size : Int) ≥ (a1.size : Int) then (if 0 ≤ (a1.size : Int) then (if (a1.size : Int) ≤ (a0.size : Int) then (some ((a0.extract 0 a1.size).toList == a1.toList)) else (none)) else (none)) else (some false)) = some r := h
 clear h
 by_cases c3 : (a0.size : Int) ≥ (a1.size : Int)
 ·rw [if_pos c3] at H
  have c3b0 : decide ((a1.size : Int) ≤ (a0.size : Int)) = true := decide_eq_true c3
  have c3b1 : decide (a1.size ≤ a0.size) = true := decide_eq_true (Int.ofNat_le.mp c3)
  clear c3
  by_cases c4 : 0 ≤ (a1.size : Int)
  ·rw [if_pos c4] at H
   have c4b0 := eq_true c4
   have c4b1 : decide (0 ≤ (a1.size : Int)) = true := decide_eq_true c4
   clear c4
   by_cases c5 : (a1.size : Int) ≤ (a0.size : Int)
   ·rw [if_pos c5] at H
    have c5b0 := eq_true c5
    have c5b1 : decide ((a1.size : Int) ≤ (a0.size : Int)) = true := decide_eq_true c5
    clear c5
    obtain rfl := Option.some.inj H
    go_enter Tryd.func58, Tryd.ntmps58
    go_wp2
    go_ret
    exact ⟨eqFin, drawnNow⟩
   ·rw [if_neg c5] at H
    exact absurd H (by simp)
  ·rw [if_neg c4] at H
   exact absurd H (by simp)
 ·rw [if_neg c3] at H
  have c3b0 : decide ((a1.size : Int) ≤ (a0.size : Int)) = false := decide_eq_false c3
  have c3b1 : decide (a1.size ≤ a0.size) = false := decide_eq_false (fun h => c3 (Int.ofNat_le.mpr h))
  clear c3
  obtain rfl := Option.some.inj H
  go_enter Tryd.func58, Tryd.ntmps58
  go_wp2
  go_ret
  exact ⟨eqFin, drawnNow⟩
def stringslite_CutPrefix.f (a0 : ByteArray) (a1 : ByteArray) : Option (ByteArray × Bool) := (stringslite_HasPrefix.f a0 a1).bind fun t159 => (if t159 = true then (if 0 ≤ (a1.size : Int) then (if (a1.size : Int) ≤ (a0.size : Int) then (some (a0.extract a1.size a0.size, true)) else (none)) else (none)) else (some (a0, false)))
set_option maxHeartbeats 8000000 in
set_option maxRecDepth 100000 in
theorem stringslite_CutPrefix.calls (a0 : ByteArray) (a1 : ByteArray) (r1 : ByteArray) (r2 : Bool) (w : World) (h : stringslite_CutPrefix.f a0 a1 = some (r1, r2)) :
  Calls Tryd.prog 42 #[.string a0, .string a1] w fun e w' => e = .returned (.tuple #[.string r1, .bool r2]) ∧ Drawn0 w w' := by
 have H : ((stringslite_HasPrefix.f a0 a1).bind fun t159 => (if t159 = true then (if 0 ≤ (a1.size : Int) then (if (a1.size : Int) ≤ (a0.size : Int) then (some (a0.extract a1.size a0.size, true)) else (none)) else (none)) else (some (a0, false)))) = some (r1, r2) := h
 clear h
 replace H := Option.bind_eq_some_iff.mp H
 obtain ⟨t159, A30, H⟩ := H
 replace H : (if t159 = true then (if 0 ≤ (a1.size : Int) then (if (a1.size : Int) ≤ (a0.size : Int) then (some (a0.extract a1.size a0.size, true)) else (none)) else (none)) else (some (a0, false))) = some (r1, r2) := H
 have A3 := Aside0.mk A30
 clear A30
 by_cases c4 : t159 = true
 ·subst c4
  have H1 : (if 0 ≤ (a1.size : Int) then (if (a1.size : Int) ≤ (a0.size : Int) then (some (a0.extract a1.size a0.size, true)) else (none)) else (none)) = some (r1, r2) := by rw [if_pos rfl] at H; exact H
  clear H
  have H := H1
  clear H1
  by_cases c5 : 0 ≤ (a1.size : Int)
  ·rw [if_pos c5] at H
   have c5b0 := eq_true c5
   have c5b1 : decide (0 ≤ (a1.size : Int)) = true := decide_eq_true c5
   clear c5
   by_cases c6 : (a1.size : Int) ≤ (a0.size : Int)
   ·rw [if_pos c6] at H
    have c6b0 := eq_true c6
    have c6b1 : decide ((a1.size : Int) ≤ (a0.size : Int)) = true := decide_eq_true c6
    clear c6
    simp only [Option.some.injEq, Prod.mk.injEq] at H
    obtain ⟨rfl, rfl⟩ := H
    go_enter Tryd.func42, Tryd.ntmps42
    go_wp2_with (first | ((with_reducible refine gate_callee (f := 58) rfl ?_); refine goesL_ (some 8) rfl rfl Tryd.func58 (by kernel_rfl) rfl #[.string a0, .string a1] rfl argsOk ?_; (with_reducible refine (stringslite_HasPrefix.calls a0 a1 true _ A3.out).mono ?_); rintro e w' ⟨rfl, ⟨nd, rfl⟩⟩; refine ⟨_, rfl, ?_⟩))
    go_ret2
    exact ⟨eqFin, drawnNow⟩
   ·rw [if_neg c6] at H
    exact absurd H (by simp)
  ·rw [if_neg c5] at H
   exact absurd H (by simp)
 ·replace c4 := Bool.eq_false_iff.mpr c4
  subst c4
  have H1 : (some (a0, false)) = some (r1, r2) := by rw [if_neg (show ¬ (false = true) by decide)] at H; exact H
  clear H
  have H := H1
  clear H1
  simp only [Option.some.injEq, Prod.mk.injEq] at H
  obtain ⟨rfl, rfl⟩ := H
  go_enter Tryd.func42, Tryd.ntmps42
  go_wp2_with (first | ((with_reducible refine gate_callee (f := 58) rfl ?_); refine goesL_ (some 8) rfl rfl Tryd.func58 (by kernel_rfl) rfl #[.string a0, .string a1] rfl argsOk ?_; (with_reducible refine (stringslite_HasPrefix.calls a0 a1 false _ A3.out).mono ?_); rintro e w' ⟨rfl, ⟨nd, rfl⟩⟩; refine ⟨_, rfl, ?_⟩))
  go_ret2
  exact ⟨eqFin, drawnNow⟩
end Go.Proofs.YtfempodohmhhlaaDoor.Pp
