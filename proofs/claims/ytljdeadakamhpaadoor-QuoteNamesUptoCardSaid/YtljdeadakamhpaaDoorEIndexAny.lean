/-
  strings.IndexAny, where both texts are ASCII.
-/
import Derived.Test.YtljdeadakamhpaaDoorEBase
import Derived.Test.YtljdeadakamhpaaDoorEShelf
namespace Go.Proofs.YtljdeadakamhpaaDoor.Ext
open Go.RowKit Go.Proofs.YtljdeadakamhpaaDoorW.PrintWords

def strings_IndexAny.f (a0 a1 : ByteArray) : Option Int :=
  if (a0.size < 4294967281 ∧ a1.size < 4294967281) ∧ (∀ b ∈ a0.data.toList, b.toNat < 128) ∧ (∀ b ∈ a1.data.toList, b.toNat < 128) then some (Lib.indexAny a0.data.toList a1.data.toList) else none
theorem strings_IndexAny.calls (a0 a1 : ByteArray) (r : Int) (w : World) (h : strings_IndexAny.f a0 a1 = some r) :
    Calls Tryd.prog 22 #[.string a0, .string a1] w fun e w' => e = .returned (.int .i64 r) ∧ Below w.heap.size w w' := by
  unfold strings_IndexAny.f at h
  by_cases c : (a0.size < 4294967281 ∧ a1.size < 4294967281) ∧ (∀ b ∈ a0.data.toList, b.toNat < 128) ∧ (∀ b ∈ a1.data.toList, b.toNat < 128)
  · rw [if_pos c] at h
    obtain rfl := Option.some.inj h
    exact Tryd.strings_IndexAny_laid a0 a1 w c.1.1 c.1.2 (fun j b hj => c.2.1 b (List.mem_of_getElem? hj)) (fun j b hj => c.2.2 b (List.mem_of_getElem? hj))
  · rw [if_neg c] at h; cases h
end Go.Proofs.YtljdeadakamhpaaDoor.Ext
