/-
  errors.Is at errors that are api.Errnos: are the two the same?
-/
import Derived.Test.YtecjoofjiockkaaGreatDoorEBase
import Derived.Test.YtecjoofjiockkaaGreatDoorWWords
import Derived.Test.YtecjoofjiockkaaGreatDoorWLast
import Derived.Stop.Asserts
import Derived.LaidEql
namespace Go.Proofs.YtecjoofjiockkaaGreatDoor.Ext
open Go.RowKit Go.Extern.Stop Go.Stop Go.Extern Go.Proofs.YtecjoofjiockkaaGreatDoorW.PrintWords Go.Proofs.YtecjoofjiockkaaGreatDoorW.PrintLast
theorem isEq (a b : Int) (w : World) : (Go.binOp .eql 25 (.iface 73 (.int .i64 a)) (.iface 73 (.int .i64 b))).run Tryz.prog w = .ok (.bool (a == b)) w := by kernel_rfl
theorem isTypeOf (v : Value) (w : World) : (Extern.ReflectliteType.typeOf #[.iface 73 v]).run Tryz.prog w = .ok (.iface 141 (.agg #[.pointer (some ⟨4, 73, none⟩)])) w := by kernel_rfl
theorem isComparable (w : World) : (callFunc 161 #[.agg #[.pointer (some ⟨4, 73, none⟩)]]).run Tryz.prog w = .ok (.value (.bool true)) w := by kernel_rfl
theorem isMethodComparable (v : Value) (w : World) : (Go.method 318 141 v "Comparable").run Tryz.prog w = .ok (161, v) w := by kernel_rfl
theorem isNoIs (v : Value) (xT : TypeId) (w : World) : (Instr.typeAssert (.iface 73 v) xT 162 true).run Tryz.prog w = .ok (.tuple #[.nilIface, .bool false]) w := run_typeAssert_lacksB Tryz.underlying162 (by kernel_rfl) (by kernel_rfl) v xT w
theorem isNoUnwrap (v : Value) (xT : TypeId) (w : World) : (Instr.typeAssert (.iface 73 v) xT 148 true).run Tryz.prog w = .ok (.tuple #[.nilIface, .bool false]) w := run_typeAssert_lacksB Tryz.underlying148 (by kernel_rfl) (by kernel_rfl) v xT w
theorem isNoUnwraps (v : Value) (xT : TypeId) (w : World) : (Instr.typeAssert (.iface 73 v) xT 150 true).run Tryz.prog w = .ok (.tuple #[.nilIface, .bool false]) w := run_typeAssert_lacksB Tryz.underlying150 (by kernel_rfl) (by kernel_rfl) v xT w
set_option maxHeartbeats 4000000 in
set_option maxRecDepth 100000 in
theorem is_errno (a b : Int) (w : World) :
    Calls Tryz.prog 66 #[.iface 73 (.int .i64 a), .iface 73 (.int .i64 b)] w fun e w' => e = .returned (.bool (a == b)) ∧ w' = w := by
  have h8 := @run_callFunc_extern Tryz.prog 100 _ Extern.ReflectliteType.typeOf Tryz.func100 (by kernel_rfl) (by kernel_rfl) (by kernel_rfl) (by kernel_rfl)
  have tT := isTypeOf
  have cT := isComparable
  have mR := isMethodComparable
  have nE := isNoIs
  have uE := isNoUnwrap
  have vE := isNoUnwraps
  have heq := isEq a b
  cases hab : (a == b)
  all_goals
    rw [hab] at heq
    go_enter Tryz.func66, Tryz.ntmps66
    go_wp2
    refine wp_loop_rounds 1 ?_
    rw [rounds_succ]
    go_wp2
    go_ret
    exact ⟨rfl, rfl⟩
theorem is_none (b : Int) (w : World) :
    Calls Tryz.prog 66 #[.nilIface, .iface 73 (.int .i64 b)] w fun e w' => e = .returned (.bool false) ∧ w' = w := by
  have hn := run_eql_iface_nil_left (P := Tryz.prog) w 73 (.int .i64 b) Tryz.underlying25
  go_enter Tryz.func66, Tryz.ntmps66
  go_wp2
  go_ret
  exact ⟨rfl, rfl⟩
end Go.Proofs.YtecjoofjiockkaaGreatDoor.Ext
