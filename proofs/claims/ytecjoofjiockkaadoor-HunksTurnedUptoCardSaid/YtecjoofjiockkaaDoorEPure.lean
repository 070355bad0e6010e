/-
  A toolbox for the plain laws: wrapping, texts and their bytes, cut and joined texts. No program in sight.
-/
import Derived.Test.YtecjoofjiockkaaDoorWLast
import Derived.Test.YtecjoofjiockkaaDoorWWords
import Derived.Lib.Strings
import Derived.Lib.IndexBytes
import Derived.Laws.BytesArg
import Derived.WalkKit
namespace Go.Proofs.YtecjoofjiockkaaDoor.Pure
open Go.RowKit Go.Proofs.YtecjoofjiockkaaDoorW.PrintWords Go.Proofs.YtecjoofjiockkaaDoorW.PrintLast
theorem w64 {i : Int} {n : Nat} (h0 : 0 ≤ i) (h : i < (n : Int)) (hn : n ≤ 140737488351232) : wrap64 (i + 1) = i + 1 := by
  unfold wrap64
  omega
theorem w64' {i : Int} (h0 : -9223372036854775808 ≤ i) (h1 : i ≤ 9223372036854775807) : wrap64 i = i := by
  unfold wrap64
  omega
theorem toList_nil (s : ByteArray) : s.toList = ([] : List UInt8) ↔ s.size = 0 := by
  rw [Lib.toList_data]
  constructor
  · intro h
    rw [← data_length, h]; rfl
  · intro h
    exact List.eq_nil_of_length_eq_zero ((data_length s).trans h)
theorem bt_list (s : ByteArray) (i : Nat) : bt s i = ((s.data.toList.getD i 0).toNat : Int) := by
  unfold bt
  simp only [Int.toNat_natCast]
  split
  · rename_i h
    rw [List.getD_eq_getElem?_getD, Lib.data_getElem? s i h]
    rfl
  · rename_i h
    rw [List.getD_eq_getElem?_getD, List.getElem?_eq_none (by rw [data_length]; omega)]
    rfl
theorem w_add (i n : Nat) (h : i + n ≤ 9223372036854775807) : wrap64 ((i : Int) + (n : Int)) = ((i + n : Nat) : Int) := by
  rw [w64' (by omega) (by omega)]; omega
theorem ba_ext {s t : ByteArray} (h : s.data.toList = t.data.toList) : s = t := by
  cases s; cases t; simp only at h; congr 1; exact Array.ext' h
theorem toList_eq_iff (s t : ByteArray) : s.toList = t.toList ↔ s = t := by
  rw [Lib.toList_data, Lib.toList_data]
  exact ⟨ba_ext, fun h => by rw [h]⟩
theorem rd_nat {α : Type} (d : α) (xs : List α) (i : Nat) : rdOf d xs ((i : Nat) : Int) = xs.getD i d := by
  simp [rdOf]
end Go.Proofs.YtecjoofjiockkaaDoor.Pure
