/-
  slices.Clone of rows; walked by hand.
-/
import Derived.Test.YtecjoofjiockkaaGreatDoorPp0
import Derived.Test.YtecjoofjiockkaaGreatDoorEPure
import Derived.OneCell
import Derived.Lib.SliceRun
namespace Go.Proofs.YtecjoofjiockkaaGreatDoor.Ext
open Go.RowKit Go.Proofs.YtecjoofjiockkaaGreatDoor.Pp Go.Proofs.YtecjoofjiockkaaGreatDoorW.PrintWords Go.Proofs.YtecjoofjiockkaaGreatDoorW.PrintLast Go.Proofs.YtecjoofjiockkaaGreatDoorW.PrintMore
set_option linter.unusedVariables false
set_option linter.unusedSimpArgs false
theorem R_empty {α : Type} (d : Kd α) (e : Nat) (W : World) (base : Nat) (hb : base ≤ W.heap.size) : d.R e (W.alloc (.cells #[] e)) base (fun _ => True) (.slice (some ⟨W.heap.size, 0, none⟩) 0 0) [] :=
  ⟨fun _ _ => trivial, [], ⟨by simp, .inr ⟨W.heap.size, 0, #[], rfl, hb, blk_new W _, Nat.le_refl _, by unfold maxLen; omega, by simp, by simp⟩⟩, Reps.none _ _⟩
def api_Row.f (l : List S53) : Option (List S53) := if l.length ≤ 1000000000 then some l else none
set_option maxHeartbeats 4000000 in
set_option maxRecDepth 100000 in
theorem api_Row.calls (A0 : Option Addr) (c0 : Nat) (l0 r : List S53) (w : World) (hr0 : Kd.C k53 w A0 l0.length l0) (hc0 : l0.length ≤ c0) (h : api_Row.f l0 = some r) :
    Calls Tryz.prog 61 #[.slice A0 l0.length c0] w fun e w' => ∃ v0_ : Value, e = .returned v0_ ∧ Kd.R k53 53 w' w.heap.size (fun _ => True) v0_ r ∧ Below w.heap.size w w' := by
  have heq := fun (a : Option Addr) (n c : Nat) (w : World) => Lib.run_eql_slice_nil w 27 53 a n c 0 0 Tryz.underlying27
  unfold api_Row.f at h
  split at h
  case isFalse => cases h
  rename_i hl
  obtain rfl : l0 = r := Option.some.inj h
  have HR0 := Aside0.mk hr0
  have HL := Aside0.mk hl
  clear hr0 hl h
  cases A0 with
  | none =>
    have hn : l0 = [] := by
      have h1 := HR0.out
      cases l0 with
      | nil => rfl
      | cons x t =>
        obtain ⟨ad, he, _⟩ := h1.2.2 (by simp)
        cases he
    subst hn
    go_enter Tryz.func61, Tryz.ntmps61
    go_wp2
    go_ret
    exact ⟨_, rfl, Kd.R_nil _ _ _ _ _, Below.refl _ _⟩
  | some ad =>
    go_enter Tryz.func61, Tryz.ntmps61
    go_wp2_with ((with_reducible refine gate_builtin (b := .append) (xs := #[.tmp 5, .tmp 6]) rfl ?_); at_builtin; refine Kd.R_append_rows k53 (w0 := w) w.heap.size rfl (.tmp 5) (.tmp 6) 27 53 (.agg #[(.int .i64 0), (.string ⟨#[]⟩)]) 24 rfl Tryz.underlying27 info53 rfl (by decide) (by omega) (.slice (some ⟨w.heap.size, 0, none⟩) 0 0) ([] : List S53) l0 _ _ _ (fun _ => True) (fun _ => False) rfl rfl ?aO ?aR (fun _ _ h => h) (fun _ h => h.elim) (fun _ _ => trivial) ?aB ?aS ?aL ?_; (case aO => exact R_empty k53 53 w _ (Nat.le_refl _)); (case aR => exact Kd.C_below HR0.out (below_alloc (Below.refl _ _) _)); (case aB => exact below_alloc (Below.refl _ _) _); (case aS => simp); (case aL => have := HL.out; simp only [List.length_nil]; omega); intro v1 w1 ho hb hg hat; have HO := Aside0.mk ho; have HB := Aside0.mk hb; clear ho hb hg hat)
    go_ret
    exact ⟨_, rfl, HO.out, HB.out⟩
end Go.Proofs.YtecjoofjiockkaaGreatDoor.Ext
