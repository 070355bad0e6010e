/-
  The laws' own 'num': an error's number, 0 for none.
-/
import Derived.Test.YtecjoofjiockkaaDoorEAs
namespace Go.Proofs.YtecjoofjiockkaaDoor.Ext
open Go.RowKit Go.Extern.Stop Go.Stop Go.Extern Go.Proofs.YtecjoofjiockkaaDoorW.PrintWords
def selvagelaw10_num.f (a0 : Option Int) : Option Int := some (a0.getD 0)
set_option maxHeartbeats 4000000 in
theorem num_none (w : World) : Calls Tryd.prog 25 #[.nilIface] w fun e w' => e = .returned (.int .i64 0) ∧ Below w.heap.size w w' := by
  go_enter Tryd.func25, Tryd.ntmps25
  go_wp2
  go_ret
  exact ⟨rfl, by repeat (first | exact Below.refl _ _ | apply below_alloc | apply below_drew)⟩
set_option maxHeartbeats 4000000 in
theorem num_some (c : Int) (w : World) (hGL : Glob w) : Calls Tryd.prog 25 #[.iface 57 (.int .i64 c)] w fun e w' => e = .returned (.int .i64 c) ∧ Below w.heap.size w w' := by
  have hgA : Glob (w.alloc (.cells #[.int .i64 0] 57)) := hGL.below (below_alloc (Below.refl _ _) _)
  have htA : (w.alloc (.cells #[.int .i64 0] 57)).cell? ⟨w.heap.size, 0, none⟩ = some (.int .i64 0) := by simp
  have hfA : (w.alloc (.cells #[.int .i64 0] 57)).frozen? ⟨w.heap.size, 0, none⟩ = false := by simp
  go_enter Tryd.func25, Tryd.ntmps25
  go_wp2_with (first | (go_at_call 43; refine (as_hit _ _ (.int .i64 0) _ hgA htA hfA).mono ?_; rintro e w' ⟨rfl, rfl⟩))
  go_ret
  refine ⟨rfl, ?_⟩
  exact below_alloc (below_alloc (below_alloc (below_alloc (below_alloc (Below.refl _ _) _) _) _) _) _
theorem selvagelaw10_num.calls (a0 : Option Int) (r : Int) (w : World) (hGL : Glob w) (h : selvagelaw10_num.f a0 = some r) :
    Calls Tryd.prog 25 #[errW a0] w fun e w' => e = .returned (.int .i64 r) ∧ Below w.heap.size w w' := by
  obtain rfl := Option.some.inj h
  cases a0 with
  | none => exact num_none w
  | some c => exact num_some c w hGL
end Go.Proofs.YtecjoofjiockkaaDoor.Ext
