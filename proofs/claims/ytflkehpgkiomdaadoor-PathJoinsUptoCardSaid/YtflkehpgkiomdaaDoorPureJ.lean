/-
  path, in plain Lean: the law PathJoins.
-/
import Derived.Test.YtflkehpgkiomdaaDoorPureC
import Derived.Test.YtflkehpgkiomdaaDoorPp7
namespace Go.Proofs.YtflkehpgkiomdaaDoor.Pure
open Go.RowKit Go.Proofs.YtflkehpgkiomdaaDoor.Pp Go.Proofs.YtflkehpgkiomdaaDoor.Ext Go.Proofs.YtflkehpgkiomdaaDoorW.PrintWords Go.Proofs.YtflkehpgkiomdaaDoorW.PrintLast
theorem PathJoins : ∀ (l0 : List ByteArray), ((l0.map (·.size)).sum + l0.length + 1) ≤ 1048576 → ∃ k, selvagelaw03_PathJoins.f k l0 = some true := by
  intro l0 hn
  have hs := sumP_sum l0
  refine ⟨12000000004, ?_⟩
  unfold selvagelaw03_PathJoins.f
  rw [if_pos (by simp; omega), Option.bind_some, List.nil_append, join_at l0 (by omega) (by omega) (by omega), refjoin_at l0 (by omega) (by omega) (by omega), sure_at (by omega), same_at l0 (by omega) (by omega)]
  simp only [Option.bind_some, num_at]
  rw [if_pos trivial, if_pos trivial, if_pos trivial]

end Go.Proofs.YtflkehpgkiomdaaDoor.Pure
