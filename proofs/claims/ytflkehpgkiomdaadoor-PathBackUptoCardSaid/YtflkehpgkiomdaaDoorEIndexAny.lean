/-
  strings.IndexAny at ASCII chars of two bytes or more, every text shorter than 2^32: where the first byte of chars stands. Walked over this translation: a text of more than 8 bytes goes by the set, a shorter one rune by rune; a rune that is no ASCII byte stands in no ASCII chars.
-/
import Derived.Test.YtflkehpgkiomdaaDoorEBase
import Derived.Test.YtflkehpgkiomdaaDoorEShelf
import Derived.Test.YtflkehpgkiomdaaDoorWLast
import Derived.Laws.RangeAny
import Derived.Laws.Runes
import Derived.Lib.MapLaws
import Derived.Lib.IndexAny
import Derived.Lib.TrimUEq
import Derived.Lib.TrimU
import Derived.Lib.OthersKept
import Derived.Deep.QuietTactic
import Derived.BigQuiet
import Derived.WalkMore
namespace Go.Proofs.YtflkehpgkiomdaaDoor.Ext
open Go.RowKit Go.Proofs.YtflkehpgkiomdaaDoorW.PrintWords Go.Proofs.YtflkehpgkiomdaaDoorW.PrintLast
theorem enc_high (r : Int) (h : 128 ≤ r) : ∀ b ∈ Lib.encodeRune r, 128 ≤ b.toNat := by
  intro b hb
  simp only [Lib.encodeRune, List.mem_map] at hb
  obtain ⟨z, hz, rfl⟩ := hb
  have key : 128 ≤ z ∧ z < 256 := by
    unfold Lib.encodeRuneZ at hz
    split at hz
    · omega
    · split at hz
      · simp at hz; omega
      · split at hz
        · simp at hz; omega
        · split at hz
          · simp at hz; omega
          · simp at hz; omega
  have : (z.toNat.toUInt8).toNat = z.toNat % 256 := by simp
  rw [this]
  omega
theorem window_high (s : ByteArray) (i : Nat) (h : i < s.size) (ha : 128 ≤ (s[i]'h).toNat) :
    i + (Utf8.decode s i).2 ≤ s.size ∧ ∀ j b, i ≤ j → j < i + (Utf8.decode s i).2 → s.data.toList[j]? = some b → 128 ≤ b.toNat := by
  have hl : s.data.toList.length = s.size := data_length s
  have hne : s.data.toList.drop i ≠ [] := by
    intro e
    have := congrArg List.length e
    simp only [List.length_drop, List.length_nil] at this
    omega
  have hle := Lib.decodeL_le _ hne
  rw [Lib.decodeL_drop, List.length_drop] at hle
  refine ⟨by omega, fun j b hj hj2 hb => ?_⟩
  obtain ⟨h1, h2⟩ := decode_high s i h ha
  by_cases hv : (Utf8.decode s i).1 = 65533 ∧ (Utf8.decode s i).2 = 1
  · have : j = i := by omega
    subst this
    rw [List.getElem?_eq_getElem (by omega)] at hb
    injection hb with hb
    rw [← hb]
    exact ha
  · have he := Lib.encode_decode _ hne (by rw [Lib.decodeL_drop]; exact hv)
    rw [Lib.decodeL_drop] at he
    refine enc_high ((Utf8.decode s i).1 : Int) (by omega) b ?_
    rw [he]
    have : (s.data.toList.drop i)[j - i]? = some b := by rw [List.getElem?_drop, show i + (j - i) = j by omega]; exact hb
    exact List.mem_of_getElem? (i := j - i) (by rw [List.getElem?_take, if_pos (by omega)]; exact this)
theorem decode_valid (s : ByteArray) (i : Nat) : Utf8.valid ((Utf8.decode s i).1 : Int) = true := by
  rw [Lib.decode_at]
  have k0 := UInt8.toNat_lt (s.get! i)
  rcases Lib.decodeN_shape (s.size - i) (s.get! i).toNat (s.get! (i + 1)).toNat (s.get! (i + 2)).toNat (s.get! (i + 3)).toNat with ⟨c, e⟩ | ⟨c1, c2, c3, cv, e⟩ | ⟨c1, c2, c3, c4, cv, cs, e⟩ | ⟨c1, c2, c3, c4, c5, cv, cw, e⟩ | e
  all_goals (rw [e]; simp only [Utf8.valid]; simp; try omega)
set_option maxHeartbeats 1000000 in
set_option maxRecDepth 100000 in
theorem indexRune_error (s : ByteArray) (w : World) (hascii : ∀ (j : Nat) b, s.data.toList[j]? = some b → b.toNat < 128) :
    Calls Tryd.prog 74 #[.string s, .int .i32 65533] w fun e w' => e = .returned (.int .i64 (-1)) ∧ Below w.heap.size w w' := by
  have HA : Aside0 (∀ (j : Nat) b, s.data.toList[j]? = some b → b.toNat < 128) := ⟨hascii⟩
  clear hascii
  go_enter Tryd.func74, Tryd.ntmps74
  go_wp2_with (fail)
  go_loopg [5, 6] s.size (fun g _ _ wx => ∃ i : Nat, i + g = s.size ∧ wx = w.iter s i)
  case atStart => exact ⟨0, by omega, rfl⟩
  case round =>
    obtain ⟨i, hig, rfl⟩ := hrel
    cases gk with
    | zero =>
      obtain rfl : i = s.size := by omega
      have hnx := run_next_end (P := Tryd.prog) w s s.size
      go_wp2
      go_ret
      exact ⟨rfl, (Below.refl _ _).alloc (Nat.le_refl _) _⟩
    | succ g =>
      have hi : i < s.size := by omega
      obtain ⟨x, hx⟩ : ∃ x : UInt8, s[i]'hi = x := ⟨_, rfl⟩
      have hxl : s.data.toList[i]? = some x := by rw [← hx]; exact Lib.data_getElem? s i hi
      have hx128 : x.toNat < 128 := HA.out i x hxl
      have hnx := fun ty => run_next_ascii (P := Tryd.prog) w s i ty hi (by rw [hx]; exact hx128)
      rw [hx] at hnx
      clear hxl hx
      have hne : ((x.toNat : Int) == 65533) = false := beq_eq_false_iff_ne.2 (by omega)
      go_wp2
      go_roundg g
      case measure => omega
      case rel => exact ⟨i + 1, by omega, rfl⟩
theorem indexByte_high (l : List UInt8) (c : UInt8) (hc : 128 ≤ c.toNat) (hascii : ∀ (j : Nat) b, l[j]? = some b → b.toNat < 128) : Lib.indexByte l c = -1 := by
  have h := Lib.contains_iff_indexByte l c
  have hn : l.contains c = false := by
    rw [List.contains_eq_any_beq, List.any_eq_false]
    intro b hb he
    obtain ⟨j, hj, hjb⟩ := List.getElem_of_mem hb
    have := hascii j b (by rw [List.getElem?_eq_getElem hj, hjb])
    have e : c = b := by simpa using he
    subst e
    omega
  rw [hn] at h
  have h2 := of_decide_eq_false h.symm
  have h3 := Lib.indexByte_ge l c
  omega
set_option maxHeartbeats 1000000 in
set_option maxRecDepth 100000 in
theorem indexRune_high (s : ByteArray) (r : Int) (w : World) (h0 : 128 ≤ r) (hne : r ≠ 65533) (hv : Utf8.valid r = true) (hascii : ∀ (j : Nat) b, s.data.toList[j]? = some b → b.toNat < 128) :
    Calls Tryd.prog 74 #[.string s, .int .i32 r] w fun e w' => e = .returned (.int .i64 (-1)) ∧ Below w.heap.size w w' := by
  obtain ⟨e1, e2, e3⟩ := encode_facts r hv h0
  have hvr : Lib.validRune r = true := by
    simp only [Utf8.valid] at hv
    simp only [Lib.validRune]
    simp at hv ⊢
    omega
  have hne' : (r == 65533) = false := beq_eq_false_iff_ne.2 hne
  obtain ⟨rs, hrs⟩ : ∃ rs : ByteArray, Utf8.encode r = rs := ⟨_, rfl⟩
  rw [hrs] at e1 e2 e3
  clear hv hne
  have hlt : ¬ r < 128 := by omega
  obtain ⟨n, hn⟩ : ∃ n, rs.size = n + 1 := ⟨rs.size - 1, by omega⟩
  have hlast : n < rs.size := by omega
  obtain ⟨y, hy⟩ : ∃ y : UInt8, rs[n]'hlast = y := ⟨_, rfl⟩
  have hy128 : 128 ≤ y.toNat := by
    have h := e3 (by omega)
    simp only [hn, Nat.add_sub_cancel] at h
    rw [← hy]
    exact h
  have hno := fun (l : List UInt8) h => indexByte_high l y hy128 h
  have HN := Aside0.mk hno
  clear hno e3
  by_cases hin : n < s.size
  · obtain ⟨x, hx⟩ : ∃ x : UInt8, s[n]'hin = x := ⟨_, rfl⟩
    have hx128 : x.toNat < 128 := hascii n x (by rw [← hx]; exact Lib.data_getElem? s n hin)
    have hxy : ((x.toNat : Int) != (y.toNat : Int)) = true := by rw [bne_iff_ne]; omega
    have hcall : ∀ W, Calls Tryd.prog 45 #[.string (s.extract (n + 1) s.size), .int .u8 y.toNat] W fun e w' => e = .returned (.int .i64 (-1)) ∧ w' = W := by
      intro W
      refine (Tryd.strings_IndexByte (s.extract (n + 1) s.size) y.toNat W).mono ?_
      rintro e w' ⟨rfl, rfl⟩
      refine ⟨?_, rfl⟩
      have e1 : ((y.toNat : Nat) : Int).toNat.toUInt8 = y := by simp
      rw [e1, HN.out _ (fun j b hb => by
        rw [Lib.extract_data] at hb
        have hm := List.mem_of_getElem? hb
        have hm2 : b ∈ s.data.toList := List.mem_of_mem_drop (List.mem_of_mem_take hm)
        obtain ⟨q, hq, hqb⟩ := List.getElem_of_mem hm2
        exact hascii q b (by rw [List.getElem?_eq_getElem hq, hqb]))]
    have HC := Aside0.mk hcall
    have HA := Aside0.mk hascii
    clear hascii hcall
    go_enter Tryd.func74, Tryd.ntmps74
    go_wp2_with (first | (go_at_call 86; refine (Tryd.utf8_ValidRune r _).mono ?_; rintro e w' ⟨rfl, hw⟩; rw [hw, hvr]))
    go_step3
    go_wp2
    refine wp_loop_rounds 1 ?_
    rw [rounds_succ]
    go_wp2
    go_step3
    go_wp2
    go_quiet (fail)
    go_wp2
    obtain ⟨wq, hwq⟩ : ∃ wq, w.drewN nq = wq := ⟨_, rfl⟩
    have hbq : Below w.heap.size w wq := by rw [← hwq]; exact pw_below_drewN (Below.refl _ _) nq
    rw [hwq]
    have HQ := Aside0.mk hbq
    clear hwq hbq
    have s1 : IntKind.i64.wrap ((n : Int) + 1) = (n : Int) + 1 := by rw [i64_w]; unfold wrap64; omega
    have s2 : 0 ≤ (n : Int) + 1 := by omega
    have s3 : ((n : Int) + 1).toNat = n + 1 := by omega
    have s4 : (n : Int) + 1 ≤ (s.size : Int) := by omega
    go_quiet ((go_at_call 45; exact Calls.quiet_of_same (HC.out _)))
    go_wp2
    rw [Exit.noGoto_ret]
    go_wp2
    rw [Exit.noGoto_ret]
    go_ret
    exact ⟨rfl, pw_below_drewN HQ.out _⟩
  · have hni : ¬ ((n : Int) < (s.size : Int)) := by omega
    clear hascii
    go_enter Tryd.func74, Tryd.ntmps74
    go_wp2_with (first | (go_at_call 86; refine (Tryd.utf8_ValidRune r _).mono ?_; rintro e w' ⟨rfl, hw⟩; rw [hw, hvr]))
    go_step3
    go_wp2
    refine wp_loop_rounds 1 ?_
    rw [rounds_succ]
    go_wp2
    rw [Exit.noGoto_ret]
    go_ret
    exact ⟨rfl, Below.refl _ _⟩
theorem NoAny_add {s chars : List UInt8} {i : Nat} (n : Nat) (h : Lib.NoAny s chars i) (hx : ∀ j b, i ≤ j → j < i + n → s[j]? = some b → chars.contains b = false) : Lib.NoAny s chars (i + n) := fun j b hj hb => by
  rcases Nat.lt_or_ge j i with hlt | hge
  · exact h j b hlt hb
  · exact hx j b hge hj hb
set_option maxHeartbeats 2000000 in
set_option maxRecDepth 1000000 in
theorem indexAny_short (s chars : ByteArray) (w : World) (h2 : 2 ≤ chars.size) (h8 : s.size ≤ 8) (hascii : ∀ (j : Nat) b, chars.data.toList[j]? = some b → b.toNat < 128) :
    Calls Tryd.prog 56 #[.string s, .string chars] w fun e w' => e = .returned (.int .i64 (Lib.indexAny s.data.toList chars.data.toList)) ∧ Below w.heap.size w w' := by
  have HA : Aside0 (∀ (j : Nat) b, chars.data.toList[j]? = some b → b.toNat < 128) := ⟨hascii⟩
  clear hascii
  have hemp : chars.toList.isEmpty = false := by
    rw [Lib.toList_data]
    cases h : chars.data.toList with
    | nil => have := Lib.size_eq chars; rw [h, List.length_nil] at this; omega
    | cons _ _ => rfl
  have hn1 : ((chars.size : Int) == 1) = false := beq_eq_false_iff_ne.2 (by omega)
  have h8z : decide ((8 : Int) < (s.size : Int)) = false := decide_eq_false (by omega)
  go_enter Tryd.func56, Tryd.ntmps56
  go_wp2_with (go_at_call 75; refine (Tryd.strings_shouldUseASCIISet _ _).mono ?_; rintro e w' ⟨rfl, hw⟩; rw [hw, h8z])
  go_loopg [9, 10] s.size (fun g _ _ wx => ∃ i : Nat, i + g = s.size ∧ Aside0 (Below w.heap.size w wx) ∧ Aside0 (wx.heap[w.heap.size]? = some (.stringIter s i)) ∧ Aside0 (Lib.NoAny s.data.toList chars.data.toList i))
  case atStart => exact ⟨0, by omega, ⟨(Below.refl _ _).alloc (Nat.le_refl _) _⟩, ⟨World.iter_heap w s 0⟩, ⟨Lib.NoAny.zero _ _⟩⟩
  case round =>
    obtain ⟨i, hig, HB, HI, HN⟩ := hrel
    cases gk with
    | zero =>
      obtain rfl : i = s.size := by omega
      have hnx := fun ty => Lib.run_next_end_at (P := Tryd.prog) wr w.heap.size s s.size ty HI.out (by omega)
      go_wp2
      go_ret
      exact ⟨by rw [Lib.indexAny_none (by rw [← Lib.size_eq]; exact HN.out)]; rfl, HB.out⟩
    | succ g =>
      have hi : i < s.size := by omega
      obtain ⟨x, hx⟩ : ∃ x : UInt8, s[i]'hi = x := ⟨_, rfl⟩
      have hxl : s.data.toList[i]? = some x := by rw [← hx]; exact Lib.data_getElem? s i hi
      have Hx : Aside0 (s.data.toList[i]? = some x) := ⟨hxl⟩
      clear hxl
      by_cases hx128 : x.toNat < 128
      · have hnx := fun ty => Lib.run_next_ascii_at (P := Tryd.prog) wr w.heap.size s i ty HI.out hi (by rw [hx]; exact hx128)
        rw [hx] at hnx
        clear hx
        have hcon := Lib.contains_iff_indexByte chars.data.toList x
        have hback : ((x.toNat : Int)).toNat.toUInt8 = x := by simp
        have HB2 : Aside0 (Below w.heap.size w (wr.iterAt w.heap.size s (i + 1))) := ⟨Lib.below_iterAt HB.out (Nat.le_refl _) s _⟩
        have HI2 : Aside0 ((wr.iterAt w.heap.size s (i + 1)).heap[w.heap.size]? = some (.stringIter s (i + 1))) := ⟨Lib.iterAt_heap wr w.heap.size s i (i + 1) HI.out⟩
        clear HB HI
        obtain ⟨wi, hwi⟩ : ∃ wi, wr.iterAt w.heap.size s (i + 1) = wi := ⟨_, rfl⟩
        rw [hwi] at hnx HB2 HI2
        clear hwi
        cases hin : chars.data.toList.contains x
        · rw [hin] at hcon
          have hlt : ¬ ((0 : Int) ≤ Lib.indexByte chars.data.toList x) := of_decide_eq_false hcon.symm
          clear hcon
          have HIN := Aside0.mk hin
          clear hin
          go_wp2_with (go_at_call 74; refine (Tryd.strings_IndexRune_ascii _ _ _ (by omega) (by omega)).mono ?_; rintro e w' ⟨rfl, hw⟩; rw [hw, hback])
          go_roundg g
          case measure => omega
          case rel => exact ⟨i + 1, by omega, HB2, HI2, ⟨HN.out.succ Hx.out HIN.out⟩⟩
        · rw [hin] at hcon
          have hge : (0 : Int) ≤ Lib.indexByte chars.data.toList x := of_decide_eq_true hcon.symm
          clear hcon
          have HIN := Aside0.mk hin
          clear hin
          go_wp2_with (go_at_call 74; refine (Tryd.strings_IndexRune_ascii _ _ _ (by omega) (by omega)).mono ?_; rintro e w' ⟨rfl, hw⟩; rw [hw, hback])
          go_ret
          exact ⟨by rw [Lib.indexAny_hit HN.out Hx.out HIN.out]; rfl, HB2.out⟩
      · have hb : 128 ≤ (s[i]'hi).toNat := by rw [hx]; omega
        obtain ⟨hw1, hw2⟩ := window_high s i hi hb
        obtain ⟨hr1, hn1'⟩ := decode_high s i hi hb
        have hval := decode_valid s i
        have hnx := fun ty => Lib.run_next_any_at (P := Tryd.prog) wr w.heap.size s i ty HI.out hi
        clear hx hx128
        generalize (Utf8.decode s i).1 = r at hr1 hval hnx
        generalize (Utf8.decode s i).2 = n at hw1 hw2 hn1' hnx
        have HB2 : Aside0 (Below w.heap.size w (wr.iterAt w.heap.size s (i + n))) := ⟨Lib.below_iterAt HB.out (Nat.le_refl _) s _⟩
        have HI2 : Aside0 ((wr.iterAt w.heap.size s (i + n)).heap[w.heap.size]? = some (.stringIter s (i + n))) := ⟨Lib.iterAt_heap wr w.heap.size s i (i + n) HI.out⟩
        clear HB HI
        obtain ⟨wi, hwi⟩ : ∃ wi, wr.iterAt w.heap.size s (i + n) = wi := ⟨_, rfl⟩
        rw [hwi] at hnx HB2 HI2
        clear hwi
        have HN2 : Aside0 (Lib.NoAny s.data.toList chars.data.toList (i + n)) := ⟨NoAny_add n HN.out (fun j b hj hj2 hbj => by
          have h128 := hw2 j b hj hj2 hbj
          rw [List.contains_eq_any_beq, List.any_eq_false]
          intro c hc he
          obtain ⟨q, hq, hqc⟩ := List.getElem_of_mem hc
          have := HA.out q c (by rw [List.getElem?_eq_getElem hq, hqc])
          have e : b = c := by simpa using he
          subst e
          omega)⟩
        clear hw2 HN Hx
        have hcall : Calls Tryd.prog 74 #[.string chars, .int .i32 (r : Int)] wi fun e w' => e = .returned (.int .i64 (-1)) ∧ Below wi.heap.size wi w' := by
          by_cases he : (r : Int) = 65533
          · rw [he]; exact indexRune_error chars wi HA.out
          · exact indexRune_high chars r wi (by omega) he hval HA.out
        have HC := Aside0.mk hcall
        clear hcall hval
        go_wp2_with (go_at_call 74; (with_reducible refine HC.out.mono ?_); rintro e w1 ⟨rfl, hbw⟩)
        have HB3 : Aside0 (Below w.heap.size w w1) := ⟨below_then HB2.out HB2.out.size hbw⟩
        have HI3 : Aside0 (w1.heap[w.heap.size]? = some (.stringIter s (i + n))) := ⟨by rw [hbw.block _ (Array.getElem?_eq_some_iff.1 HI2.out).1]; exact HI2.out⟩
        clear hbw HB2 HI2
        go_wp2
        go_roundg (s.size - (i + n))
        case measure => omega
        case rel => exact ⟨i + n, by omega, HB3, HI3, HN2⟩
theorem set_info : (Tryd.prog.info? 82).map (fun i => (i.zero, i.size)) = some (some (.agg (Array.replicate 256 (.bool false))), 256) := by kernel_rfl
def strings_IndexAny.f (a0 a1 : ByteArray) : Option Int :=
  if (a0.size < 4294967281 ∧ 2 ≤ a1.size ∧ a1.size < 4294967281) ∧ (∀ b ∈ a1.data.toList, b.toNat < 128) then some (Lib.indexAny a0.data.toList a1.data.toList) else none
theorem strings_IndexAny.calls (a0 a1 : ByteArray) (r : Int) (w : World) (h : strings_IndexAny.f a0 a1 = some r) :
    Calls Tryd.prog 56 #[.string a0, .string a1] w fun e w' => e = .returned (.int .i64 r) ∧ Below w.heap.size w w' := by
  unfold strings_IndexAny.f at h
  by_cases c : (a0.size < 4294967281 ∧ 2 ≤ a1.size ∧ a1.size < 4294967281) ∧ (∀ b ∈ a1.data.toList, b.toNat < 128)
  · rw [if_pos c] at h
    obtain rfl := Option.some.inj h
    have ha : ∀ (j : Nat) b, a1.data.toList[j]? = some b → b.toNat < 128 := fun j b hj => c.2 b (List.mem_of_getElem? hj)
    by_cases h8 : a0.size ≤ 8
    · exact indexAny_short a0 a1 w c.1.2.1 h8 ha
    · refine (Tryd.strings_IndexAny_long (zero_of_info set_info).1 a0 a1 w c.1.2.1 (by omega) c.1.1 c.1.2.2 ha).mono ?_
      rintro e w' ⟨rfl, rfl⟩
      exact ⟨rfl, below_alloc (below_alloc (Below.refl _ _) _) _⟩
  · rw [if_neg c] at h; cases h
end Go.Proofs.YtflkehpgkiomdaaDoor.Ext
