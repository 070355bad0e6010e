/-
 selvagelaw05.InternWays: its closure (InternWays$1), and the law; walked by hand over the printed contracts of intern.Key and of the law's 'sure'.
-/
import Derived.Test.YtpfhgaaphaalgaaDoorESq
import Derived.Test.YtpfhgaaphaalgaaDoorPp1
import Derived.Test.YtpfhgaaphaalgaaDoorPp3
import Derived.OneCell
import Derived.Deep.RegionHeld3
namespace Go.Proofs.YtpfhgaaphaalgaaDoor.Pw
open Go.RowKit Go.Proofs.YtpfhgaaphaalgaaDoor.Pp Go.Proofs.YtpfhgaaphaalgaaDoor.Ext Go.Proofs.YtpfhgaaphaalgaaDoorW.PrintWords Go.Proofs.YtpfhgaaphaalgaaDoorW.PrintLast Go.Proofs.YtpfhgaaphaalgaaDoorW.PrintMore
def alikeF (k : Nat) (s t : ByteArray) (e : Int) : Option Bool := (intern_Key.f k s e).bind fun a => (intern_Key.f k t e).bind fun b => some (a.toList == b.toList)
structure TwoIn (w0 : World) (bS bT : Nat) (s t : ByteArray) (w : World) : Prop where
 below : Below w0.heap.size w0 w
 s : w.heap[bS]? = some (.cells #[.string s] 9 (0, 0))
 t : w.heap[bT]? = some (.cells #[.string t] 9 (0, 0))
theorem TwoIn.then {w0 : World} {bS bT : Nat} {s t : ByteArray} {w w' : World} (h : TwoIn w0 bS bT s t w) (k : Below w.heap.size w w') : TwoIn w0 bS bT s t w' := ⟨below_step h.below k, blk_below h.s k, blk_below h.t k⟩
theorem TwoIn.held {w0 : World} {bS bT : Nat} {s t : ByteArray} {w w' : World} (h : w.cell? ⟨bS, 0, none⟩ = some (.string s) ∧ w.cell? ⟨bT, 0, none⟩ = some (.string t) ∧ Aside0 (TwoIn w0 bS bT s t w)) (k : Below w.heap.size w w') : TwoIn w0 bS bT s t w' := h.2.2.out.then k
set_option maxHeartbeats 8000000 in
set_option maxRecDepth 100000 in
theorem alike.calls (k bS bT : Nat) (s t : ByteArray) (e : Int) (r : Bool) (w0 w : World) (hI : TwoIn w0 bS bT s t w) (h : alikeF k s t e = some r) :
  Calls Tryd.prog 14 #[.int .i64 e, .pointer (some ⟨bS, 0, none⟩), .pointer (some ⟨bT, 0, none⟩)] w fun x w' => x = .returned (.bool r) ∧ TwoIn w0 bS bT s t w' := by
 unfold alikeF at h
 obtain ⟨a, ha, h⟩ := Option.bind_eq_some_iff.mp h
 obtain ⟨b, hb, h⟩ := Option.bind_eq_some_iff.mp h
 obtain rfl := Option.some.inj h
 have HA := Aside0.mk ha
 have HB := Aside0.mk hb
 have HI := Aside0.mk hI
 have hS := cell_of_one hI.s
 have hT := cell_of_one hI.t
 clear h ha hb hI
 go_enter Tryd.func14, Tryd.ntmps14
 go_wp2
 go_region_held3 (fun w' => w'.cell? ⟨bS, 0, none⟩ = some (.string s) ∧ w'.cell? ⟨bT, 0, none⟩ = some (.string t) ∧ Aside0 (TwoIn w0 bS bT s t w')) (first | exact ⟨by assumption, by assumption, by assumption⟩ | exact ⟨by first | assumption | (simp only [World.cell?_drew]; assumption), by first | assumption | (simp only [World.cell?_drew]; assumption), ⟨TwoIn.then (Aside0.out (by assumption)) (below_drew1 (Below.refl _ _))⟩⟩)
  (first | (go_at_call 8; (with_reducible refine (intern_Key.calls k s e a _ HA.out).mono ?_); rintro x w' ⟨rfl, hb_⟩; have HX_ := Aside0.mk (TwoIn.held (w0 := w0) (bS := bS) (bT := bT) (s := s) (t := t) (by assumption) hb_); have hS_ := cell_of_one HX_.out.s; have hT_ := cell_of_one HX_.out.t; clear hb_) | (go_at_call 8; (with_reducible refine (intern_Key.calls k t e b _ HB.out).mono ?_); rintro x w' ⟨rfl, hb_⟩; have HX_ := Aside0.mk (TwoIn.held (w0 := w0) (bS := bS) (bT := bT) (s := s) (t := t) (by assumption) hb_); have hS_ := cell_of_one HX_.out.s; have hT_ := cell_of_one HX_.out.t; clear hb_))
 go_wp2
 go_ret
 exact ⟨rfl, TwoIn.held (by assumption) (Below.refl _ _)⟩
structure WaysOK (k : Nat) (s t : ByteArray) (e : Int) (A : Int → Bool) : Prop where
 e0 : 0 ≤ e
 e1 : e ≤ 15
 al : ∀ m : Int, 0 ≤ m → m ≤ 15 → alikeF k s t m = some (A m)
 more : ∀ m : Nat, m < 16 → A e = true → Go.bits .and .i64 (m : Int) e = e → A (m : Int) = true
 eq : s.toList = t.toList → A e = true
 w1 : A 8 = true → A 4 = true
 w2 : A 4 = true → A 2 = true
 sure : selvagelaw05_sure.f k = some true
open Classical in
noncomputable def selvagelaw05_InternWays.f (k : Nat) (a0 a1 : ByteArray) (a2 : Int) : Option Bool := if ∃ A, WaysOK k a0 a1 (Go.bits .and .i64 a2 15) A then some true else none
set_option maxHeartbeats 8000000 in
set_option maxRecDepth 100000 in
theorem selvagelaw05_InternWays.calls (k : Nat) (a0 : ByteArray) (a1 : ByteArray) (a2 : Int) (r : Bool) (w : World) (h : selvagelaw05_InternWays.f k a0 a1 a2 = some r) :
  Calls Tryd.prog 5 #[.string a0, .string a1, .int .i64 a2] w fun e w' => e = .returned (.bool r) ∧ Below w.heap.size w w' := by
 unfold selvagelaw05_InternWays.f at h
 split at h
 case isFalse => cases h
 rename_i hA
 obtain ⟨A, hA⟩ := hA
 obtain rfl := Option.some.inj h
 clear h
 have HA := Aside0.mk hA
 clear hA
 have hmf : ∀ (fn : Fn) (first cap : Array Value) (w : World), (Instr.makeFunc fn first cap).run Tryd.prog w = .ok (.func fn first cap) w := fun _ _ _ _ => rfl
 go_enter Tryd.func5, Tryd.ntmps5
 go_upto_region 3 with (fail)
 generalize Go.bits .and .i64 a2 15 = e at HA ⊢
 have HI : Aside0 (TwoIn w w.heap.size (w.heap.size + 1) a0 a1 ((w.alloc (Obj.cells #[Value.string a0] 9)).alloc (Obj.cells #[Value.string a1] 9))) := ⟨by
  have s1 : (w.alloc (Obj.cells #[Value.string a0] 9)).heap.size = w.heap.size + 1 := by simp
  refine ⟨below_alloc (below_alloc (Below.refl _ _) _) _, blk_alloc (blk_new _ _) _, ?_⟩
  have := blk_new (w.alloc (Obj.cells #[Value.string a0] 9)) (Obj.cells #[Value.string a1] 9)
  rw [s1] at this
  exact this⟩
 generalize ((w.alloc (Obj.cells #[Value.string a0] 9)).alloc (Obj.cells #[Value.string a1] 9)) = W at HI ⊢
 clear hmf
 have HE := Aside0.mk (HA.out.al e HA.out.e0 HA.out.e1)
 go_wp2
 go_loopg [8] 17 (fun kq v8 w' => ∃ m : Nat, v8 = .int .i64 (m : Int) ∧ Aside0 (m + kq = 17 ∧ m ≤ 16) ∧ Aside0 (TwoIn w w.heap.size (w.heap.size + 1) a0 a1 w'))
 case atStart => exact ⟨0, rfl, ⟨by omega⟩, HI⟩
 case round =>
  clear HI
  obtain ⟨m, rfl, HK, HI⟩ := hrel
  by_cases hm : m < 16
  ·have z1 : decide ((m : Int) < 16) = true := decide_eq_true (by omega)
   have HM := Aside0.mk (HA.out.al (m : Int) (by omega) (by omega))
   cases hAe : A e with
   | false =>
    have HE' : Aside0 (alikeF k a0 a1 e = some false) := ⟨by rw [← hAe]; exact HE.out⟩
    clear hAe
    go_wp2_with (first | (go_at_call 14; (with_reducible refine (alike.calls k w.heap.size (w.heap.size + 1) a0 a1 e false w _ HI.out HE'.out).mono ?_); rintro x w1 ⟨rfl, hi⟩; clear HI; have HI := Aside0.mk hi; clear hi))
    go_roundg (gk - 1)
    case measure => have := HK.out; omega
    case rel => exact ⟨m + 1, (by first | go_num | (simp; done)), ⟨by have := HK.out; omega⟩, HI⟩
   | true =>
    have HE' : Aside0 (alikeF k a0 a1 e = some true) := ⟨by rw [← hAe]; exact HE.out⟩
    by_cases hbt : Go.bits .and .i64 (m : Int) e = e
    ·have hAm := HA.out.more m hm hAe hbt
     have HM' : Aside0 (alikeF k a0 a1 (m : Int) = some true) := ⟨by rw [← hAm]; exact HM.out⟩
     have z2 : (Go.bits .and .i64 (m : Int) e == e) = true := beq_iff_eq.mpr hbt
     clear hAe hAm hbt
     go_wp2_with (first | (go_at_call 14; (with_reducible refine (alike.calls k w.heap.size (w.heap.size + 1) a0 a1 e true w _ HI.out HE'.out).mono ?_); rintro x w1 ⟨rfl, hi⟩; clear HI; have HI := Aside0.mk hi; clear hi) | (go_at_call 14; (with_reducible refine (alike.calls k w.heap.size (w.heap.size + 1) a0 a1 (m : Int) true w _ HI.out HM'.out).mono ?_); rintro x w1 ⟨rfl, hi⟩; clear HI; have HI := Aside0.mk hi; clear hi))
     go_roundg (gk - 1)
     case measure => have := HK.out; omega
     case rel => exact ⟨m + 1, (by first | go_num | (simp; done)), ⟨by have := HK.out; omega⟩, HI⟩
    ·have z2 : (Go.bits .and .i64 (m : Int) e == e) = false := beq_eq_false_iff_ne.mpr hbt
     clear hAe hbt
     go_wp2_with (first | (go_at_call 14; (with_reducible refine (alike.calls k w.heap.size (w.heap.size + 1) a0 a1 e true w _ HI.out HE'.out).mono ?_); rintro x w1 ⟨rfl, hi⟩; clear HI; have HI := Aside0.mk hi; clear hi))
     go_roundg (gk - 1)
     case measure => have := HK.out; omega
     case rel => exact ⟨m + 1, (by first | go_num | (simp; done)), ⟨by have := HK.out; omega⟩, HI⟩
  ·have z1 : decide ((m : Int) < 16) = false := decide_eq_false (by omega)
   have cS := cell_of_one HI.out.s
   have cT := cell_of_one HI.out.t
   have H8 := Aside0.mk (HA.out.al 8 (by omega) (by omega))
   have H4 := Aside0.mk (HA.out.al 4 (by omega) (by omega))
   have H2 := Aside0.mk (HA.out.al 2 (by omega) (by omega))
   have HSU := Aside0.mk HA.out.sure
   have HW1 := Aside0.mk HA.out.w1
   have HW2 := Aside0.mk HA.out.w2
   have HEQ := Aside0.mk HA.out.eq
   clear HA
   generalize A e = ae at HE HEQ
   generalize A 8 = a8 at H8 HW1
   generalize A 4 = a4 at H4 HW1 HW2
   generalize A 2 = ae2 at H2 HW2
   by_cases hst : a0.toList = a1.toList
   ·obtain rfl := HEQ.out hst
    have z2 : (a0.toList == a1.toList) = true := beq_iff_eq.mpr hst
    clear hst HEQ
    cases a4 with
    | true =>
     obtain rfl := HW2.out rfl
     cases a8 with
     | true =>
      go_wp2_with (first | (go_at_call 12; (with_reducible refine (selvagelaw05_sure.calls k true _ HSU.out).mono ?_); rintro x w1 ⟨rfl, hb⟩; have HBF := Aside0.mk (below_step HI.out.below hb); clear hb) | (go_at_call 14; (with_reducible refine (alike.calls k w.heap.size (w.heap.size + 1) a0 a1 e _ w _ HI.out HE.out).mono ?_); rintro x w1 ⟨rfl, hi⟩; clear HI; have HI := Aside0.mk hi; clear hi) | (go_at_call 14; (with_reducible refine (alike.calls k w.heap.size (w.heap.size + 1) a0 a1 8 _ w _ HI.out H8.out).mono ?_); rintro x w1 ⟨rfl, hi⟩; clear HI; have HI := Aside0.mk hi; clear hi) | (go_at_call 14; (with_reducible refine (alike.calls k w.heap.size (w.heap.size + 1) a0 a1 4 _ w _ HI.out H4.out).mono ?_); rintro x w1 ⟨rfl, hi⟩; clear HI; have HI := Aside0.mk hi; clear hi) | (go_at_call 14; (with_reducible refine (alike.calls k w.heap.size (w.heap.size + 1) a0 a1 2 _ w _ HI.out H2.out).mono ?_); rintro x w1 ⟨rfl, hi⟩; clear HI; have HI := Aside0.mk hi; clear hi))
      go_ret
      exact ⟨rfl, HBF.out⟩
     | false =>
      go_wp2_with (first | (go_at_call 12; (with_reducible refine (selvagelaw05_sure.calls k true _ HSU.out).mono ?_); rintro x w1 ⟨rfl, hb⟩; have HBF := Aside0.mk (below_step HI.out.below hb); clear hb) | (go_at_call 14; (with_reducible refine (alike.calls k w.heap.size (w.heap.size + 1) a0 a1 e _ w _ HI.out HE.out).mono ?_); rintro x w1 ⟨rfl, hi⟩; clear HI; have HI := Aside0.mk hi; clear hi) | (go_at_call 14; (with_reducible refine (alike.calls k w.heap.size (w.heap.size + 1) a0 a1 8 _ w _ HI.out H8.out).mono ?_); rintro x w1 ⟨rfl, hi⟩; clear HI; have HI := Aside0.mk hi; clear hi) | (go_at_call 14; (with_reducible refine (alike.calls k w.heap.size (w.heap.size + 1) a0 a1 4 _ w _ HI.out H4.out).mono ?_); rintro x w1 ⟨rfl, hi⟩; clear HI; have HI := Aside0.mk hi; clear hi) | (go_at_call 14; (with_reducible refine (alike.calls k w.heap.size (w.heap.size + 1) a0 a1 2 _ w _ HI.out H2.out).mono ?_); rintro x w1 ⟨rfl, hi⟩; clear HI; have HI := Aside0.mk hi; clear hi))
      go_ret
      exact ⟨rfl, HBF.out⟩
    | false =>
     have h8 : a8 = false := by cases a8 with | false => rfl | true => exact absurd (HW1.out rfl) (by simp)
     subst h8
     go_wp2_with (first | (go_at_call 12; (with_reducible refine (selvagelaw05_sure.calls k true _ HSU.out).mono ?_); rintro x w1 ⟨rfl, hb⟩; have HBF := Aside0.mk (below_step HI.out.below hb); clear hb) | (go_at_call 14; (with_reducible refine (alike.calls k w.heap.size (w.heap.size + 1) a0 a1 e _ w _ HI.out HE.out).mono ?_); rintro x w1 ⟨rfl, hi⟩; clear HI; have HI := Aside0.mk hi; clear hi) | (go_at_call 14; (with_reducible refine (alike.calls k w.heap.size (w.heap.size + 1) a0 a1 8 _ w _ HI.out H8.out).mono ?_); rintro x w1 ⟨rfl, hi⟩; clear HI; have HI := Aside0.mk hi; clear hi) | (go_at_call 14; (with_reducible refine (alike.calls k w.heap.size (w.heap.size + 1) a0 a1 4 _ w _ HI.out H4.out).mono ?_); rintro x w1 ⟨rfl, hi⟩; clear HI; have HI := Aside0.mk hi; clear hi) | (go_at_call 14; (with_reducible refine (alike.calls k w.heap.size (w.heap.size + 1) a0 a1 2 _ w _ HI.out H2.out).mono ?_); rintro x w1 ⟨rfl, hi⟩; clear HI; have HI := Aside0.mk hi; clear hi))
     go_ret
     exact ⟨rfl, HBF.out⟩
   ·have z2 : (a0.toList == a1.toList) = false := beq_eq_false_iff_ne.mpr hst
    clear hst HEQ
    cases a4 with
    | true =>
     obtain rfl := HW2.out rfl
     cases a8 with
     | true =>
      go_wp2_with (first | (go_at_call 12; (with_reducible refine (selvagelaw05_sure.calls k true _ HSU.out).mono ?_); rintro x w1 ⟨rfl, hb⟩; have HBF := Aside0.mk (below_step HI.out.below hb); clear hb) | (go_at_call 14; (with_reducible refine (alike.calls k w.heap.size (w.heap.size + 1) a0 a1 e _ w _ HI.out HE.out).mono ?_); rintro x w1 ⟨rfl, hi⟩; clear HI; have HI := Aside0.mk hi; clear hi) | (go_at_call 14; (with_reducible refine (alike.calls k w.heap.size (w.heap.size + 1) a0 a1 8 _ w _ HI.out H8.out).mono ?_); rintro x w1 ⟨rfl, hi⟩; clear HI; have HI := Aside0.mk hi; clear hi) | (go_at_call 14; (with_reducible refine (alike.calls k w.heap.size (w.heap.size + 1) a0 a1 4 _ w _ HI.out H4.out).mono ?_); rintro x w1 ⟨rfl, hi⟩; clear HI; have HI := Aside0.mk hi; clear hi) | (go_at_call 14; (with_reducible refine (alike.calls k w.heap.size (w.heap.size + 1) a0 a1 2 _ w _ HI.out H2.out).mono ?_); rintro x w1 ⟨rfl, hi⟩; clear HI; have HI := Aside0.mk hi; clear hi))
      go_ret
      exact ⟨rfl, HBF.out⟩
     | false =>
      go_wp2_with (first | (go_at_call 12; (with_reducible refine (selvagelaw05_sure.calls k true _ HSU.out).mono ?_); rintro x w1 ⟨rfl, hb⟩; have HBF := Aside0.mk (below_step HI.out.below hb); clear hb) | (go_at_call 14; (with_reducible refine (alike.calls k w.heap.size (w.heap.size + 1) a0 a1 e _ w _ HI.out HE.out).mono ?_); rintro x w1 ⟨rfl, hi⟩; clear HI; have HI := Aside0.mk hi; clear hi) | (go_at_call 14; (with_reducible refine (alike.calls k w.heap.size (w.heap.size + 1) a0 a1 8 _ w _ HI.out H8.out).mono ?_); rintro x w1 ⟨rfl, hi⟩; clear HI; have HI := Aside0.mk hi; clear hi) | (go_at_call 14; (with_reducible refine (alike.calls k w.heap.size (w.heap.size + 1) a0 a1 4 _ w _ HI.out H4.out).mono ?_); rintro x w1 ⟨rfl, hi⟩; clear HI; have HI := Aside0.mk hi; clear hi) | (go_at_call 14; (with_reducible refine (alike.calls k w.heap.size (w.heap.size + 1) a0 a1 2 _ w _ HI.out H2.out).mono ?_); rintro x w1 ⟨rfl, hi⟩; clear HI; have HI := Aside0.mk hi; clear hi))
      go_ret
      exact ⟨rfl, HBF.out⟩
    | false =>
     have h8 : a8 = false := by cases a8 with | false => rfl | true => exact absurd (HW1.out rfl) (by simp)
     subst h8
     go_wp2_with (first | (go_at_call 12; (with_reducible refine (selvagelaw05_sure.calls k true _ HSU.out).mono ?_); rintro x w1 ⟨rfl, hb⟩; have HBF := Aside0.mk (below_step HI.out.below hb); clear hb) | (go_at_call 14; (with_reducible refine (alike.calls k w.heap.size (w.heap.size + 1) a0 a1 e _ w _ HI.out HE.out).mono ?_); rintro x w1 ⟨rfl, hi⟩; clear HI; have HI := Aside0.mk hi; clear hi) | (go_at_call 14; (with_reducible refine (alike.calls k w.heap.size (w.heap.size + 1) a0 a1 8 _ w _ HI.out H8.out).mono ?_); rintro x w1 ⟨rfl, hi⟩; clear HI; have HI := Aside0.mk hi; clear hi) | (go_at_call 14; (with_reducible refine (alike.calls k w.heap.size (w.heap.size + 1) a0 a1 4 _ w _ HI.out H4.out).mono ?_); rintro x w1 ⟨rfl, hi⟩; clear HI; have HI := Aside0.mk hi; clear hi) | (go_at_call 14; (with_reducible refine (alike.calls k w.heap.size (w.heap.size + 1) a0 a1 2 _ w _ HI.out H2.out).mono ?_); rintro x w1 ⟨rfl, hi⟩; clear HI; have HI := Aside0.mk hi; clear hi))
     go_ret
     exact ⟨rfl, HBF.out⟩
end Go.Proofs.YtpfhgaaphaalgaaDoor.Pw
