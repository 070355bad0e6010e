/-
  errors.Is at errors that are api.Errnos: are the two the same?
-/
import Derived.Test.YtecjoofjiockkaaDoorEBase
import Derived.Test.YtecjoofjiockkaaDoorWWords
import Derived.Test.YtecjoofjiockkaaDoorWLast
import Derived.Stop.Asserts
import Derived.LaidEql
namespace Go.Proofs.YtecjoofjiockkaaDoor.Ext
open Go.RowKit Go.Extern.Stop Go.Stop Go.Extern Go.Proofs.YtecjoofjiockkaaDoorW.PrintWords Go.Proofs.YtecjoofjiockkaaDoorW.PrintLast
theorem isEq (a b : Int) (w : World) : (Go.binOp .eql 28 (.iface 57 (.int .i64 a)) (.iface 57 (.int .i64 b))).run Tryd.prog w = .ok (.bool (a == b)) w := by kernel_rfl
theorem isTypeOf (v : Value) (w : World) : (Extern.ReflectliteType.typeOf #[.iface 57 v]).run Tryd.prog w = .ok (.iface 113 (.agg #[.pointer (some ⟨4, 57, none⟩)])) w := by kernel_rfl
theorem isComparable (w : World) : (callFunc 115 #[.agg #[.pointer (some ⟨4, 57, none⟩)]]).run Tryd.prog w = .ok (.value (.bool true)) w := by kernel_rfl
theorem isMethodComparable (v : Value) (w : World) : (Go.method 283 113 v "Comparable").run Tryd.prog w = .ok (115, v) w := by kernel_rfl
theorem isNoIs (v : Value) (xT : TypeId) (w : World) : (Instr.typeAssert (.iface 57 v) xT 115 true).run Tryd.prog w = .ok (.tuple #[.nilIface, .bool false]) w := run_typeAssert_lacksB Tryd.underlying115 (by kernel_rfl) (by kernel_rfl) v xT w
theorem isNoUnwrap (v : Value) (xT : TypeId) (w : World) : (Instr.typeAssert (.iface 57 v) xT 118 true).run Tryd.prog w = .ok (.tuple #[.nilIface, .bool false]) w := run_typeAssert_lacksB Tryd.underlying118 (by kernel_rfl) (by kernel_rfl) v xT w
theorem isNoUnwraps (v : Value) (xT : TypeId) (w : World) : (Instr.typeAssert (.iface 57 v) xT 120 true).run Tryd.prog w = .ok (.tuple #[.nilIface, .bool false]) w := run_typeAssert_lacksB Tryd.underlying120 (by kernel_rfl) (by kernel_rfl) v xT w
set_option maxHeartbeats 4000000 in
set_option maxRecDepth 100000 in
theorem is_errno (a b : Int) (w : World) :
    Calls Tryd.prog 31 #[.iface 57 (.int .i64 a), .iface 57 (.int .i64 b)] w fun e w' => e = .returned (.bool (a == b)) ∧ w' = w := by
  have h8 := @run_callFunc_extern Tryd.prog 48 _ Extern.ReflectliteType.typeOf Tryd.func48 (by kernel_rfl) (by kernel_rfl) (by kernel_rfl) (by kernel_rfl)
  have tT := isTypeOf
  have cT := isComparable
  have mR := isMethodComparable
  have nE := isNoIs
  have uE := isNoUnwrap
  have vE := isNoUnwraps
  have heq := isEq a b
  cases hab : (a == b)
  all_goals
    rw [hab] at heq
    go_enter Tryd.func31, Tryd.ntmps31
    go_wp2
    refine wp_loop_rounds 1 ?_
    rw [rounds_succ]
    go_wp2
    go_ret
    exact ⟨rfl, rfl⟩
theorem is_none (b : Int) (w : World) :
    Calls Tryd.prog 31 #[.nilIface, .iface 57 (.int .i64 b)] w fun e w' => e = .returned (.bool false) ∧ w' = w := by
  have hn := run_eql_iface_nil_left (P := Tryd.prog) w 57 (.int .i64 b) Tryd.underlying28
  go_enter Tryd.func31, Tryd.ntmps31
  go_wp2
  go_ret
  exact ⟨rfl, rfl⟩
end Go.Proofs.YtecjoofjiockkaaDoor.Ext
