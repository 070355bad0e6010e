/-
  A toolbox for the plain laws: wrapping, texts and their bytes, cut and joined texts. No program in sight.
-/
import Derived.Test.YtflkehpgkiomdaaDoorWLast
import Derived.Test.YtflkehpgkiomdaaDoorWWords
import Derived.Lib.Strings
import Derived.Lib.IndexBytes
import Derived.Laws.BytesArg
import Derived.WalkKit
namespace Go.Proofs.YtflkehpgkiomdaaDoor.Pure
open Go.RowKit Go.Proofs.YtflkehpgkiomdaaDoorW.PrintWords Go.Proofs.YtflkehpgkiomdaaDoorW.PrintLast
theorem w64' {i : Int} (h0 : -9223372036854775808 ≤ i) (h1 : i ≤ 9223372036854775807) : wrap64 i = i := by
  unfold wrap64
  omega
theorem toList_nil (s : ByteArray) : s.toList = ([] : List UInt8) ↔ s.size = 0 := by
  rw [Lib.toList_data]
  constructor
  · intro h
    rw [← data_length, h]; rfl
  · intro h
    exact List.eq_nil_of_length_eq_zero ((data_length s).trans h)
theorem bt_list (s : ByteArray) (i : Nat) : bt s i = ((s.data.toList.getD i 0).toNat : Int) := by
  unfold bt
  simp only [Int.toNat_natCast]
  split
  · rename_i h
    rw [List.getD_eq_getElem?_getD, Lib.data_getElem? s i h]
    rfl
  · rename_i h
    rw [List.getD_eq_getElem?_getD, List.getElem?_eq_none (by rw [data_length]; omega)]
    rfl
theorem size_cut (s : ByteArray) (a : Nat) : (s.extract a s.size).size = s.size - a := by
  rw [ByteArray.size_extract, Nat.min_self]
theorem bt_append_left (s t : ByteArray) (j : Nat) (h : j < s.size) : bt (s ++ t) j = bt s j := by
  rw [bt_list, bt_list, ByteArray.data_append, Array.toList_append, List.getD_eq_getElem?_getD, List.getElem?_append_left (by rw [data_length]; exact h), ← List.getD_eq_getElem?_getD]
theorem bt_append_right (s t : ByteArray) (j : Nat) : bt (s ++ t) ((s.size + j : Nat) : Int) = bt t j := by
  rw [bt_list, bt_list, ByteArray.data_append, Array.toList_append, List.getD_eq_getElem?_getD, List.getElem?_append_right (by rw [data_length]; omega), data_length, Nat.add_sub_cancel_left, ← List.getD_eq_getElem?_getD]
theorem w_add (i n : Nat) (h : i + n ≤ 9223372036854775807) : wrap64 ((i : Int) + (n : Int)) = ((i + n : Nat) : Int) := by
  rw [w64' (by omega) (by omega)]; omega
theorem ba_ext {s t : ByteArray} (h : s.data.toList = t.data.toList) : s = t := by
  cases s; cases t; simp only at h; congr 1; exact Array.ext' h
theorem app_data (s t : ByteArray) : (s ++ t).data.toList = s.data.toList ++ t.data.toList := by rw [ByteArray.data_append, Array.toList_append]
theorem app_nil (s : ByteArray) : s ++ (⟨#[]⟩ : ByteArray) = s := by
  apply ba_ext
  rw [app_data]; simp
theorem ext_ext (s : ByteArray) (a b c d : Nat) (hd : a + d ≤ b) : (s.extract a b).extract c d = s.extract (a + c) (a + d) := by
  apply ba_ext
  rw [Lib.extract_data, Lib.extract_data, Lib.extract_data, List.drop_take, List.take_take, List.drop_drop]
  congr 1
  omega
theorem ext_all (s : ByteArray) : s.extract 0 s.size = s := by
  apply ba_ext
  rw [Lib.extract_data, List.drop_zero, Nat.sub_zero, ← data_length s, List.take_length]
theorem rd_nat {α : Type} (d : α) (xs : List α) (i : Nat) : rdOf d xs ((i : Nat) : Int) = xs.getD i d := by
  simp [rdOf]
theorem w_sub (i : Nat) (h : i ≤ 9223372036854775807) : wrap64 ((i : Int) - 1) = (i : Int) - 1 := by
  rw [w64' (by omega) (by omega)]
end Go.Proofs.YtflkehpgkiomdaaDoor.Pure
