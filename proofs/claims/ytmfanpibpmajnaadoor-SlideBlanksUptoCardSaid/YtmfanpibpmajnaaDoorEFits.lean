/-
  edits.Fits, walked by hand: its closure (XEFits1), stay with it (XEFits2), over the printed contract of edits.Valid.
-/
import Derived.Test.YtmfanpibpmajnaaDoorPp2
import Derived.Test.YtmfanpibpmajnaaDoorEFits2
namespace Go.Proofs.YtmfanpibpmajnaaDoor.Ext
open Go.RowKit Go.Proofs.YtmfanpibpmajnaaDoor.Pp Go.Proofs.YtmfanpibpmajnaaDoorW.PrintWords Go.Proofs.YtmfanpibpmajnaaDoorW.PrintLast Go.Proofs.YtmfanpibpmajnaaDoorW.PrintMore
def edits_Fits.f (k : Nat) (l0 : List S43) (l1 l2 : List Int) : Option (Option Int) :=
  if l0.length ≤ 9223372036854775807 then
  (edits_Valid.f k l0 (l1.length : Int) (l2.length : Int)).bind fun e =>
    if e.isNone = true then (stayF k l1 l2 (l1.length : Int) l0 0 0 true).bind fun f => some (if f = true then none else some 61) else some e else none
theorem edits_Fits.mono : ∀ a0 a1 a2 k, LeO (edits_Fits.f k a0 a1 a2) (edits_Fits.f (k + 1) a0 a1 a2) := by
  intro a0 a1 a2 k
  unfold edits_Fits.f
  exact LeO.ite (LeO.bind (edits_Valid.mono _ _ _ _) (fun _ => LeO.ite (LeO.bind (stayF.mono _ _ _ _ _ _ _ _) (fun _ => LeO.refl _)) (LeO.refl _))) (LeO.refl _)
set_option maxHeartbeats 8000000 in
set_option maxRecDepth 100000 in
theorem edits_Fits.calls (k : Nat) (A0 : Option Addr) (c0 : Nat) (l0 : List S43) (A1 : Option Addr) (c1 : Nat) (l1 : List Int) (A2 : Option Addr) (c2 : Nat) (l2 : List Int) (r : Option Int) (w : World)
    (hr0 : Kd.C k43 w A0 l0.length l0) (hc0 : l0.length ≤ c0) (hr1 : Kd.C (Kd.int .i64) w A1 l1.length l1) (hc1 : l1.length ≤ c1) (hr2 : Kd.C (Kd.int .i64) w A2 l2.length l2) (hc2 : l2.length ≤ c2) (h : edits_Fits.f k l0 l1 l2 = some r) :
    Calls Tryd.prog 17 #[.slice A0 l0.length c0, .slice A1 l1.length c1, .slice A2 l2.length c2] w fun e w' => e = .returned (errW r) ∧ Below w.heap.size w w' := by
  unfold edits_Fits.f at h
  split at h
  case isFalse => cases h
  rename_i hlen
  obtain ⟨e, hV, h⟩ := Option.bind_eq_some_iff.mp h
  have HV := Aside0.mk hV
  have HR0 := Aside0.mk hr0
  have HR1 := Aside0.mk hr1
  have HR2 := Aside0.mk hr2
  clear hV hr0 hr1 hr2
  have hmf : ∀ (fn : Fn) (first cap : Array Value) (w : World), (Instr.makeFunc fn first cap).run Tryd.prog w = .ok (.func fn first cap) w := fun _ _ _ _ => rfl
  go_enter Tryd.func17, Tryd.ntmps17
  go_upto_region 1 with (fail)
  generalize hW1 : ((w.alloc (Obj.cells #[Value.slice A1 l1.length c1] 23)).alloc (Obj.cells #[Value.slice A2 l2.length c2] 23)) = W1
  have BA1 : Aside0 (W1.heap[w.heap.size]? = some (.cells #[.slice A1 l1.length c1] 23 (0, 0))) := ⟨by rw [← hW1]; exact blk_alloc (blk_new w _) _⟩
  have BBl : Aside0 (W1.heap[w.heap.size + 1]? = some (.cells #[.slice A2 l2.length c2] 23 (0, 0))) := ⟨by
    rw [← hW1]
    have := blk_new (w.alloc (Obj.cells #[Value.slice A1 l1.length c1] 23)) (Obj.cells #[Value.slice A2 l2.length c2] 23)
    rw [show (w.alloc (Obj.cells #[Value.slice A1 l1.length c1] 23)).heap.size = w.heap.size + 1 by simp] at this
    exact this⟩
  have BB1 : Aside0 (Below w.heap.size w W1) := ⟨by rw [← hW1]; exact below_alloc (below_alloc (Below.refl _ _) _) _⟩
  clear hW1
  have ca1 := cell_of_one BA1.out
  have cb1 := cell_of_one BBl.out
  cases e with
  | some x =>
    rw [if_neg (by simp)] at h
    obtain rfl := Option.some.inj h
    go_wp2_with (go_at_call 27; (with_reducible refine (edits_Valid.calls k _ _ l0 (l1.length : Int) (l2.length : Int) (some x) _ (Kd.C_below HR0.out BB1.out) hc0 HV.out).mono ?_); rintro e w2 ⟨rfl, hb⟩; have BA2 := Aside0.mk (blk_below BA1.out hb); have BB2 := Aside0.mk (blk_below BBl.out hb); have HB2 := Aside0.mk (below_step BB1.out hb); clear hb; simp only [errW_some])
    go_ret
    exact ⟨by first | rfl | simp [errW_some], HB2.out⟩
  | none =>
    rw [if_pos (show (none : Option Int).isNone = true from rfl)] at h
    obtain ⟨f, hS, h⟩ := Option.bind_eq_some_iff.mp h
    obtain rfl := Option.some.inj h
    have HS := Aside0.mk hS
    clear hS h
    go_upto_region 5 with (go_at_call 27; (with_reducible refine (edits_Valid.calls k _ _ l0 (l1.length : Int) (l2.length : Int) none _ (Kd.C_below HR0.out BB1.out) hc0 HV.out).mono ?_); rintro e w2 ⟨rfl, hb⟩; have BA2 := Aside0.mk (blk_below BA1.out hb); have BB2 := Aside0.mk (blk_below BBl.out hb); have HB2 := Aside0.mk (below_step BB1.out hb); clear hb; simp only [errW_none])
    have HX : Aside0 (FIn w w2.heap.size w.heap.size (w.heap.size + 1) A1 l1.length c1 A2 l2.length c2 true (w2.alloc (Obj.cells #[Value.bool true] 4))) := ⟨⟨below_alloc HB2.out _, blk_new _ _, blk_alloc BA2.out _, blk_alloc BB2.out _⟩⟩
    generalize (w2.alloc (Obj.cells #[Value.bool true] 4)) = W3 at HX ⊢
    have ca3 := cell_of_one HX.out.a
    go_wp2_with (go_at_call 28; (with_reducible refine (stay.calls k w2.heap.size w.heap.size (w.heap.size + 1) A0 c0 l0 (l1.length : Int) true f A1 A2 c1 c2 l1 l2 w _ HB2.out.size HX.out HR0.out HR1.out hc1 HR2.out hc2 hlen HS.out).mono ?_); rintro e w4 ⟨rfl, hx⟩; have HX4 := Aside0.mk hx; clear hx; have cf4 := cell_of_one HX4.out.f; cases f)
    all_goals
      first
        | (go_ret; exact ⟨by first | rfl | simp [errW_none, errW_some], HX4.out.below⟩)
        | (go_wp2; go_ret; exact ⟨by first | rfl | simp [errW_none, errW_some], HX4.out.below⟩)
end Go.Proofs.YtmfanpibpmajnaaDoor.Ext
