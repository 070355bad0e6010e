/-
  intern.lower: a copy of a text's bytes in which great letters are made small; walked by hand.
-/
import Derived.Test.YtpfhgaaphaalgaaDoorEBase
import Derived.Test.YtpfhgaaphaalgaaDoorWLast
import Derived.Test.YtpfhgaaphaalgaaDoorWMore
import Derived.Deep.LoopGhost
import Derived.Lib.ConvBytes
import Derived.Laws.BytesArg
import Derived.Deep.QuietTactic
import Derived.BigQuiet
namespace Go.Proofs.YtpfhgaaphaalgaaDoor.Ext
open Go.RowKit Go.Proofs.YtpfhgaaphaalgaaDoorW.PrintWords Go.Proofs.YtpfhgaaphaalgaaDoorW.PrintLast Go.Proofs.YtpfhgaaphaalgaaDoorW.PrintMore
def lowB (b : UInt8) : UInt8 := if 65 ≤ b.toNat ∧ b.toNat ≤ 90 then b + 32 else b
def lowS (s : ByteArray) : ByteArray := ⟨(s.data.toList.map lowB).toArray⟩
def lowAt (l : List UInt8) (i j : Nat) : Int := if j < i then ((lowB (l.getD j 0)).toNat : Int) else ((l.getD j 0).toNat : Int)
structure LowIn (w : World) (s : ByteArray) (i : Nat) (w' : World) : Prop where
  below : Below w.heap.size w w'
  row : ∃ cs : Array Value, w'.heap[w.heap.size]? = some (.cells cs 5 (cs.size, cs.size + 1)) ∧ s.size ≤ cs.size ∧ ∀ j, j < s.size → cs[j]? = some (.int .u8 (lowAt s.data.toList i j))
theorem LowIn.cell {w w' : World} {s : ByteArray} {i : Nat} (h : LowIn w s i w') (j : Nat) (hj : j < s.size) : w'.cell? ⟨w.heap.size, j, none⟩ = some (.int .u8 (lowAt s.data.toList i j)) := by
  obtain ⟨cs, h1, h2, h3⟩ := h.row
  simp only [World.cell?, h1]
  exact h3 j hj
theorem LowIn.free {w w' : World} {s : ByteArray} {i : Nat} (h : LowIn w s i w') (j : Nat) (hj : j < s.size) : w'.frozen? ⟨w.heap.size, j, none⟩ = false := by
  obtain ⟨cs, h1, h2, h3⟩ := h.row
  simp only [World.frozen?, h1]
  simp
  omega
theorem LowIn.keep {w w' : World} {s : ByteArray} {i : Nat} (h : LowIn w s i w') (he : lowB (s.data.toList.getD i 0) = s.data.toList.getD i 0) : LowIn w s (i + 1) w' := by
  obtain ⟨cs, h1, h2, h3⟩ := h.row
  refine ⟨h.below, cs, h1, h2, fun j hj => ?_⟩
  rw [h3 j hj]
  unfold lowAt
  by_cases e : j = i
  · subst e; rw [if_neg (by omega), if_pos (by omega), he]
  · by_cases e2 : j < i
    · rw [if_pos e2, if_pos (by omega)]
    · rw [if_neg e2, if_neg (by omega)]
theorem LowIn.put {w w' : World} {s : ByteArray} {i : Nat} (h : LowIn w s i w') (hi : i < s.size) (x : Int) (he : x = ((lowB (s.data.toList.getD i 0)).toNat : Int)) : LowIn w s (i + 1) (w'.setCell ⟨w.heap.size, i, none⟩ (.int .u8 x)) := by
  obtain ⟨cs, h1, h2, h3⟩ := h.row
  refine ⟨below_set h.below (Nat.le_refl _), cs.setIfInBounds i (.int .u8 x), ?_, ?_, fun j hj => ?_⟩
  · have hlt : w.heap.size < w'.heap.size := blk_lt h1
    have hx := (Array.getElem?_eq_some_iff.1 h1).2
    simp [World.setCell, Array.getElem?_modify, h1]
  · simpa using h2
  · rw [Array.getElem?_setIfInBounds]
    by_cases e : i = j
    · subst e
      rw [if_pos rfl, if_pos (by omega), he]
      unfold lowAt
      rw [if_pos (by omega)]
    · rw [if_neg e, h3 j hj]
      unfold lowAt
      by_cases e2 : j < i
      · rw [if_pos e2, if_pos (by omega)]
      · rw [if_neg e2, if_neg (by omega)]
theorem LowIn.new (w : World) (s : ByteArray) : LowIn w s 0 (Lib.bytesWorld w 5 s) := by
  refine ⟨bytes_below (Below.refl _ _) (Nat.le_refl _) 5 s, _, Lib.bytesWorld_at_new w 5 s, ?_, fun j hj => ?_⟩
  · simp [Lib.bytesCells]
  · have h' : j < s.data.size := hj
    simp [Lib.bytesCells, Array.getElem?_append, lowAt]
    rw [if_pos hj, Array.getElem?_eq_getElem h']
    simp
def intern_lower.f (a0 : ByteArray) : Option ByteArray := if a0.size ≤ 9223372036854775807 then some (lowS a0) else none
theorem strOfNums_low (s : ByteArray) : strOfNums ((List.range s.size).map (lowAt s.data.toList s.size)) = lowS s := by
  have hl : s.data.toList.length = s.size := data_length s
  unfold strOfNums lowS
  congr 1
  congr 1
  rw [List.map_map]
  apply List.ext_getElem
  · simp [hl]
  · intro i h1 h2
    have hi : i < s.size := by simpa using h1
    simp [lowAt, hi, List.getD_eq_getElem?_getD]
set_option maxHeartbeats 4000000 in
set_option maxRecDepth 100000 in
theorem intern_lower.calls (a0 : ByteArray) (r : ByteArray) (w : World) (h : intern_lower.f a0 = some r) :
    Calls Tryd.prog 22 #[.string a0] w fun e w' => e = .returned (.string r) ∧ Below w.heap.size w w' := by
  unfold intern_lower.f at h
  by_cases hs : a0.size ≤ 9223372036854775807
  case neg => rw [if_neg hs] at h; cases h
  rw [if_pos hs] at h
  obtain rfl := Option.some.inj h
  clear h
  have kb := fun W => print_bytes (P := Tryd.prog) 9 42 5 Tryd.underlying9 Tryd.underlying42 Tryd.underlying5 a0 W
  have hl : a0.data.toList.length = a0.size := data_length a0
  have HL := Aside0.mk hl
  clear hl
  go_enter Tryd.func22, Tryd.ntmps22
  go_wp2
  clear kb
  go_loopg [4, 5, 10] (a0.size + 1) (fun kq v4 v5 v10 w' => ∃ (i : Nat), v10 = .int .i64 (i : Int) ∧ Aside0 (i + kq = a0.size + 1 ∧ i ≤ a0.size) ∧ Aside0 (LowIn w a0 i w'))
  case atStart => exact ⟨0, rfl, ⟨by omega⟩, ⟨LowIn.new w a0⟩⟩
  case round =>
    obtain ⟨i, rfl, HK, HI⟩ := hrel
    by_cases hi : i < a0.size
    · have hc := HI.out.cell i hi
      have hf := HI.out.free i hi
      have hx : lowAt a0.data.toList i i = ((a0.data.toList.getD i 0).toNat : Int) := by unfold lowAt; rw [if_neg (by omega)]
      rw [hx] at hc
      clear hx
      obtain ⟨b, hb⟩ : ∃ b, b = a0.data.toList.getD i 0 := ⟨_, rfl⟩
      rw [← hb] at hc
      have HB := Aside0.mk hb
      clear hb
      have h255 : b.toNat < 256 := b.toNat_lt
      have hlow : lowB b = if 65 ≤ b.toNat ∧ b.toNat ≤ 90 then b + 32 else b := rfl
      have HW := Aside0.mk hlow
      clear hlow
      rcases (show (65 ≤ b.toNat ∧ b.toNat ≤ 90) ∨ b.toNat < 65 ∨ 90 < b.toNat by omega) with ⟨h1, h2⟩ | h1 | h1
      · go_wp2
        go_roundg (gk - 1)
        case measure => have := HK.out; omega
        case rel => exact ⟨i + 1, by go_num, ⟨by have := HK.out; omega⟩, ⟨HI.out.put hi _ (by rw [← HB.out, HW.out, if_pos ⟨h1, h2⟩, UInt8.toNat_add]; have : (32 : UInt8).toNat = 32 := rfl; omega)⟩⟩
      · go_wp2
        go_roundg (gk - 1)
        case measure => have := HK.out; omega
        case rel => exact ⟨i + 1, by go_num, ⟨by have := HK.out; omega⟩, ⟨HI.out.keep (by rw [← HB.out, HW.out, if_neg (by omega)])⟩⟩
      · go_wp2
        go_roundg (gk - 1)
        case measure => have := HK.out; omega
        case rel => exact ⟨i + 1, by go_num, ⟨by have := HK.out; omega⟩, ⟨HI.out.keep (by rw [← HB.out, HW.out, if_neg (by omega)])⟩⟩
    · obtain rfl : i = a0.size := by have := HK.out; omega
      have hcv := run_convert_bytes_arg (P := Tryd.prog) wr 42 5 Tryd.underlying42 Tryd.underlying5 w.heap.size 0 a0.size (grownCap w a0.size 0 5) ((List.range a0.size).map (lowAt a0.data.toList a0.size)) (by simp) (fun j hj => by
        rw [Nat.zero_add, HI.out.cell j hj]
        simp [List.getD_eq_getElem?_getD, hj]) 9 Tryd.underlying9
      rw [strOfNums_low] at hcv
      go_wp2
      go_ret
      exact ⟨rfl, HI.out.below⟩
end Go.Proofs.YtpfhgaaphaalgaaDoor.Ext
