/-
  path, in plain Lean: the law PathOwn.
-/
import Derived.Test.YtflkehpgkiomdaaDoorPureB
import Derived.Test.YtflkehpgkiomdaaDoorPp7
namespace Go.Proofs.YtflkehpgkiomdaaDoor.Pure
open Go.RowKit Go.Proofs.YtflkehpgkiomdaaDoor.Pp Go.Proofs.YtflkehpgkiomdaaDoor.Ext Go.Proofs.YtflkehpgkiomdaaDoorW.PrintWords Go.Proofs.YtflkehpgkiomdaaDoorW.PrintLast

theorem own_loop (s : ByteArray) (d : Nat) : ∀ (k i : Nat) (x : List ByteArray), i + d = x.length → x.length ≤ 64 → d + 2 * s.size + 100 ≤ k →
    selvagelaw03_PathOwn.l0 k s x (i : Int) = some true := by
  have hl := parts_length s
  induction d with
  | zero =>
    intro k i x hd hx hk
    obtain ⟨k, rfl⟩ : ∃ m, k = m + 1 := ⟨k - 1, by omega⟩
    simp only [selvagelaw03_PathOwn.l0]
    rw [if_neg (by omega)]
    simp only [Option.bind_some]
    have hlen : (x ++ [(⟨#[109, 111, 114, 101]⟩ : ByteArray), (⟨#[109, 111, 114, 101]⟩ : ByteArray)]).length = x.length + 2 := by simp
    have hw : wrap64 (((x ++ [(⟨#[109, 111, 114, 101]⟩ : ByteArray), (⟨#[109, 111, 114, 101]⟩ : ByteArray)]).length : Int) - 1) = ((x.length + 1 : Nat) : Int) := by rw [hlen, w64' (by omega) (by omega)]; omega
    have hg : (x ++ [(⟨#[109, 111, 114, 101]⟩ : ByteArray), (⟨#[109, 111, 114, 101]⟩ : ByteArray)]).getD (x.length + 1) ByteArray.empty = (⟨#[109, 111, 114, 101]⟩ : ByteArray) := by
      rw [List.getD_eq_getElem?_getD, List.getElem?_append_right (by omega), Nat.add_sub_cancel_left]
      rfl
    have ht : (⟨#[109, 111, 114, 101]⟩ : ByteArray).toList = [109, 111, 114, 101] := by rw [Lib.toList_data]
    rw [if_pos (by simp; omega), parts_at s (by omega), refparts_at s (by omega)]
    simp only [Option.bind_some]
    rw [same_at _ (by omega) (by omega), Option.bind_some, if_pos rfl, hw, rd_nat, hg, if_pos (by omega), if_pos (by omega), if_pos ht, sure_at (by omega)]
    rfl
  | succ d ih =>
    intro k i x hd hx hk
    obtain ⟨k, rfl⟩ : ∃ m, k = m + 1 := ⟨k - 1, by omega⟩
    have w1 : wrap64 ((i : Int) + 1) = ((i + 1 : Nat) : Int) := w_add i 1 (by omega)
    simp only [selvagelaw03_PathOwn.l0, w1]
    rw [if_pos (by omega), if_pos (by omega)]
    exact ih k (i + 1) _ (by rw [List.length_set]; omega) (by rw [List.length_set]; exact hx) (by omega)
theorem PathOwn : ∀ (a0 : ByteArray), (a0.size + 1) ≤ 1048576 → ∃ k, selvagelaw03_PathOwn.f k a0 = some true := by
  intro a0 hn
  have hl := parts_length a0
  refine ⟨2 * a0.size + 300, ?_⟩
  unfold selvagelaw03_PathOwn.f
  rw [parts_at a0 (by omega), Option.bind_some]
  exact own_loop a0 (parts a0).1.length _ 0 _ (by omega) hl (by omega)
end Go.Proofs.YtflkehpgkiomdaaDoor.Pure
