/-
  selvage/quote.Quote writes what it says into a builder of its own: walked over this translation.
-/
import Derived.Test.YtfempodohmhhlaaDoorEBuilder
import Derived.Test.YtfempodohmhhlaaDoorEShelf
import Derived.Test.YtfempodohmhhlaaDoorPp2
import Derived.Test.YtfempodohmhhlaaDoorPp3
namespace Go.Proofs.YtfempodohmhhlaaDoor.Ext
open Go.RowKit Go.Proofs.YtfempodohmhhlaaDoorW.PrintWords Go.Proofs.YtfempodohmhhlaaDoor.Pp
def esc (c : Int) : List Int :=
  match quote_letter.f 10 c with
  | some (l, true) => [92, l]
  | _ => if c < 32 ∨ c ≥ 127 then [92, 48 + c / 64, 48 + c / 8 % 8, 48 + c % 8] else [c]
def quotedFrom (s : ByteArray) : Nat → List Int
  | 0 => [34]
  | n + 1 => quotedFrom s n ++ esc (bt s n)
def cellsOf (l : List Int) : List Value := l.map fun x => Value.int .u8 x
theorem quotedFrom_length (s : ByteArray) (n : Nat) : (quotedFrom s n).length ≤ 4 * n + 1 := by
  induction n with
  | zero => simp [quotedFrom]
  | succ n ih =>
    have : (esc (bt s n)).length ≤ 4 := by
      unfold esc
      split
      · simp
      · split <;> simp
    simp only [quotedFrom, List.length_append]
    omega
theorem letter_all : ∀ n : Fin 256, (quote_letter.f 10 (n.val : Int)).isSome = true := by decide +kernel
theorem esc_all : ∀ n : Fin 256, ∀ x ∈ esc (n.val : Int), 0 ≤ x ∧ x < 256 := by decide +kernel
theorem letter_some (c : Int) (h0 : 0 ≤ c) (h1 : c ≤ 255) : ∃ r, quote_letter.f 10 c = some r := by
  have h := letter_all ⟨c.toNat, by omega⟩
  have e : ((c.toNat : Nat) : Int) = c := by omega
  simp only [e] at h
  exact Option.isSome_iff_exists.mp h
theorem BAt_alloc {B b : Nat} {p : Value} {bs : List Value} {w : World} (h : BAt B b p bs w) (o : Obj) : BAt B b p bs (w.alloc o) := by
  have hlt := h.lt
  obtain ⟨hB, v, hb, hown, hne⟩ := h
  exact ⟨hB, v, (Lib.alloc_old w o b hlt).trans hb, hown.alloc _, hne⟩
theorem four_cells (w : World) (a b c d : Int) (T : TypeId) : ∀ (j : Nat) (u : Value), (cellsOf [a, b, c, d])[j]? = some u → (w.alloc (.cells #[.int .u8 a, .int .u8 b, .int .u8 c, .int .u8 d] T)).cell? ((⟨w.heap.size, 0, none⟩ : Addr).add j) = some u := by
  intro j u hj
  match j, hj with
  | 0, hj => simpa [cellsOf, Addr.add] using hj
  | 1, hj => simpa [cellsOf, Addr.add] using hj
  | 2, hj => simpa [cellsOf, Addr.add] using hj
  | 3, hj => simpa [cellsOf, Addr.add] using hj
  | n + 4, hj => simp [cellsOf] at hj
theorem one_cells (l : List Int) : ∀ u ∈ cellsOf l, u.oneCell' = true := by
  intro u hu
  simp only [cellsOf, List.mem_map] at hu
  obtain ⟨x, _, rfl⟩ := hu
  rfl
theorem byteCells_of (l : List Int) (h : ∀ x ∈ l, 0 ≤ x ∧ x < 256) : Lib.byteCells (l.map fun n => UInt8.ofNat n.toNat) = cellsOf l := by
  unfold Lib.byteCells cellsOf
  rw [List.map_map]
  apply List.map_congr_left
  intro x hx
  have := h x hx
  simp only [Function.comp]
  congr 1
  rw [UInt8.toNat_ofNat']
  omega
theorem esc_bytes (c : Int) (h0 : 0 ≤ c) (h1 : c ≤ 255) : ∀ x ∈ esc c, 0 ≤ x ∧ x < 256 := by
  have h := esc_all ⟨c.toNat, by omega⟩
  have e : ((c.toNat : Nat) : Int) = c := by omega
  simp only [e] at h
  exact h
theorem quoted_bytes (s : ByteArray) (n : Nat) : ∀ x ∈ quotedFrom s n ++ [34], 0 ≤ x ∧ x < 256 := by
  induction n with
  | zero => intro x hx; simp [quotedFrom] at hx; omega
  | succ n ih =>
    intro x hx
    simp only [quotedFrom, List.mem_append, List.mem_singleton] at hx
    have hr := bt_range s n
    rcases hx with (hx | hx) | hx
    · exact ih x (by simp [hx])
    · exact esc_bytes _ hr.1 hr.2 x hx
    · omega
theorem cellsOf_append (a b : List Int) : cellsOf (a ++ b) = cellsOf a ++ cellsOf b := by simp [cellsOf]
theorem cellsOf_length (a : List Int) : (cellsOf a).length = a.length := by simp [cellsOf]
set_option maxHeartbeats 400000 in
set_option maxRecDepth 100000 in
theorem quote_yes (k : Nat) (a0 : ByteArray) (w : World) (hN : quote_Needs.f k a0 = some true) (hs : a0.size ≤ 1099511627776) :
    Calls Tryd.prog 18 #[.string a0] w fun e w' => e = .returned (.string (strOfNums (quotedFrom a0 a0.size ++ [34]))) ∧ Below w.heap.size w w' := by
  have HN := Aside0.mk hN
  clear hN
  have hB0 := fun nd => Lib.fresh_isBuilder 46 5 (w.drewN nd)
  go_enter Tryd.func18, Tryd.ntmps18
  go_wp2_with (go_at_call 31; refine (quote_Needs.calls k a0 true _ HN.out).mono ?_; rintro e w1 ⟨rfl, ⟨nd, rfl⟩⟩)
  refine (writeByte w.heap.size w.heap.size [] 34 _ (by have := hB0 nd; simpa using this) (by simp) (by simp)).mono ?_
  rintro e w1 ⟨rfl, hb1, hw1⟩
  have hb := Aside0.mk hb1
  have HB : Aside0 (Below w.heap.size w w1) := ⟨(below_alloc (pw_below_drewN (Below.refl _ _) nd) _).trans hw1⟩
  clear hb1 hw1 hB0
  go_wp2_with (fail)
  go_loopw [15] (fun v15 wr => ∃ i : Nat, v15 = .int .i64 i ∧ i ≤ a0.size ∧ Aside0 (BAt w.heap.size w.heap.size (.pointer (some ⟨w.heap.size, 0, none⟩)) (cellsOf (quotedFrom a0 i)) wr) ∧ Aside0 (Below w.heap.size w wr)) (fun v _ => a0.size - (intOf v).toNat)
  case atStart => exact ⟨0, rfl, Nat.zero_le _, ⟨by simpa [cellsOf, quotedFrom] using hb.out⟩, HB⟩
  case round =>
    clear HB hb
    obtain ⟨i, rfl, hi, hb, HB⟩ := hrel
    by_cases hlt : i < a0.size
    · have hx : ∀ h, ((a0[i]'h).toNat : Int) = bt a0 i := fun h => bt_at a0 i h
      have hr := bt_range a0 i
      obtain ⟨hr0, hr1⟩ := hr
      obtain ⟨⟨l, ok⟩, hl⟩ := letter_some (bt a0 i) hr0 hr1
      have HL := Aside0.mk hl
      clear hl
      have hq := quotedFrom_length a0 i
      cases ok with
      | true =>
        have he : esc (bt a0 i) = [92, l] := by unfold esc; rw [HL.out]
        have He := Aside0.mk he
        clear he
        go_wp2_with (go_at_call 33; (with_reducible refine (quote_letter.calls 10 (bt a0 i) l true _ HL.out).mono ?_); rintro e w1 ⟨rfl, ⟨nd, rfl⟩⟩)
        refine (writeByte w.heap.size w.heap.size (cellsOf (quotedFrom a0 i)) 92 _ (by exact Or.inr hb.out) (by rw [cellsOf_length]; omega) (by exact HB.out.size)).mono ?_
        rintro e w1 ⟨rfl, hb1, hw1⟩
        have hb' := Aside0.mk hb1
        have HB' : Aside0 (Below w.heap.size w w1) := ⟨(pw_below_drewN HB.out nd).trans hw1⟩
        clear hb1 hw1 hb HB
        go_wp2_with (fail)
        refine (writeByte w.heap.size w.heap.size _ l _ (by exact Or.inr hb'.out) (by rw [List.length_append, cellsOf_length]; simp; omega) (by exact HB'.out.size)).mono ?_
        rintro e w2 ⟨rfl, hb1, hw1⟩
        have hb := Aside0.mk hb1
        have HB : Aside0 (Below w.heap.size w w2) := ⟨HB'.out.trans hw1⟩
        clear hb1 hw1 hb' HB'
        go_wp2_with (fail)
        go_roundw
        case rel => exact ⟨i + 1, by go_num, by omega, ⟨by rw [quotedFrom, He.out, cellsOf_append]; simpa [cellsOf] using hb.out⟩, HB⟩
        case measure => simp [intOf]; omega
      | false =>
        by_cases hc : bt a0 i < 32 ∨ bt a0 i ≥ 127
        · have he : esc (bt a0 i) = [92, 48 + bt a0 i / 64, 48 + bt a0 i / 8 % 8, 48 + bt a0 i % 8] := by unfold esc; rw [HL.out]; exact if_pos hc
          have He := Aside0.mk he
          clear he
          by_cases hc1 : bt a0 i < 32
          · go_wp2_with (go_at_call 33; (with_reducible refine (quote_letter.calls 10 (bt a0 i) l false _ HL.out).mono ?_); rintro e w1 ⟨rfl, ⟨nd, rfl⟩⟩)
            refine (write w.heap.size w.heap.size (cellsOf (quotedFrom a0 i)) ⟨wr.heap.size, 0, none⟩ 4 4 (cellsOf [92, 48 + bt a0 i / 64, 48 + bt a0 i / 8 % 8, 48 + bt a0 i % 8]) _ (by exact BAt_alloc hb.out _) rfl (by exact four_cells _ _ _ _ _ _) (by exact one_cells _) (by rw [cellsOf_length]; omega) (by exact Nat.le_trans HB.out.size (by simp))).mono ?_
            rintro e w1 ⟨rfl, hb1, hw1⟩
            have hb' := Aside0.mk hb1
            have HB' : Aside0 (Below w.heap.size w w1) := ⟨(below_alloc (pw_below_drewN HB.out nd) _).trans hw1⟩
            clear hb1 hw1 hb HB
            go_wp2_with (fail)
            go_roundw
            case rel => exact ⟨i + 1, by go_num, by omega, ⟨by rw [quotedFrom, He.out, cellsOf_append]; exact hb'.out⟩, HB'⟩
            case measure => simp [intOf]; omega
          · go_wp2_with (go_at_call 33; (with_reducible refine (quote_letter.calls 10 (bt a0 i) l false _ HL.out).mono ?_); rintro e w1 ⟨rfl, ⟨nd, rfl⟩⟩)
            refine (write w.heap.size w.heap.size (cellsOf (quotedFrom a0 i)) ⟨wr.heap.size, 0, none⟩ 4 4 (cellsOf [92, 48 + bt a0 i / 64, 48 + bt a0 i / 8 % 8, 48 + bt a0 i % 8]) _ (by exact BAt_alloc hb.out _) rfl (by exact four_cells _ _ _ _ _ _) (by exact one_cells _) (by rw [cellsOf_length]; omega) (by exact Nat.le_trans HB.out.size (by simp))).mono ?_
            rintro e w1 ⟨rfl, hb1, hw1⟩
            have hb' := Aside0.mk hb1
            have HB' : Aside0 (Below w.heap.size w w1) := ⟨(below_alloc (pw_below_drewN HB.out nd) _).trans hw1⟩
            clear hb1 hw1 hb HB
            go_wp2_with (fail)
            go_roundw
            case rel => exact ⟨i + 1, by go_num, by omega, ⟨by rw [quotedFrom, He.out, cellsOf_append]; exact hb'.out⟩, HB'⟩
            case measure => simp [intOf]; omega
        · have he : esc (bt a0 i) = [bt a0 i] := by unfold esc; rw [HL.out]; exact if_neg hc
          have He := Aside0.mk he
          clear he
          have hc1 : ¬ bt a0 i < 32 := by omega
          have hc2 : ¬ 127 ≤ bt a0 i := by omega
          clear hc
          go_wp2_with (go_at_call 33; (with_reducible refine (quote_letter.calls 10 (bt a0 i) l false _ HL.out).mono ?_); rintro e w1 ⟨rfl, ⟨nd, rfl⟩⟩)
          refine (writeByte w.heap.size w.heap.size (cellsOf (quotedFrom a0 i)) (bt a0 i) _ (by exact Or.inr hb.out) (by rw [cellsOf_length]; omega) (by exact HB.out.size)).mono ?_
          rintro e w1 ⟨rfl, hb1, hw1⟩
          have hb' := Aside0.mk hb1
          have HB' : Aside0 (Below w.heap.size w w1) := ⟨(pw_below_drewN HB.out nd).trans hw1⟩
          clear hb1 hw1 hb HB
          go_wp2_with (fail)
          go_roundw
          case rel => exact ⟨i + 1, by go_num, by omega, ⟨by rw [quotedFrom, He.out, cellsOf_append]; simpa [cellsOf] using hb'.out⟩, HB'⟩
          case measure => simp [intOf]; omega
    · have hq := quotedFrom_length a0 i
      obtain rfl : i = a0.size := by omega
      go_wp2_with (fail)
      refine (writeByte w.heap.size w.heap.size (cellsOf (quotedFrom a0 a0.size)) 34 _ (by exact Or.inr hb.out) (by rw [cellsOf_length]; omega) (by exact HB.out.size)).mono ?_
      rintro e w1 ⟨rfl, hb1, hw1⟩
      have hb' := Aside0.mk hb1
      have HB' : Aside0 (Below w.heap.size w w1) := ⟨HB.out.trans hw1⟩
      clear hb1 hw1 hb HB
      go_wp2_with (fail)
      refine (Tryd.Builder_String_any w.heap.size w.heap.size ((quotedFrom a0 a0.size ++ [34]).map fun (n : Int) => UInt8.ofNat n.toNat) _ (by exact Or.inr (by rw [byteCells_of _ (quoted_bytes a0 a0.size)]; simpa [cellsOf] using hb'.out)) (by exact HB'.out.size)).mono ?_
      rintro e w2 ⟨rfl, hw1⟩
      have HB : Aside0 (Below w.heap.size w w2) := ⟨HB'.out.trans hw1⟩
      clear hw1 hb' HB'
      go_wp2_with (fail)
      go_ret
      exact ⟨by simp [strOfNums], HB.out⟩
set_option maxHeartbeats 400000 in
theorem quote_no (k : Nat) (a0 : ByteArray) (w : World) (hN : quote_Needs.f k a0 = some false) :
    Calls Tryd.prog 18 #[.string a0] w fun e w' => e = .returned (.string a0) ∧ Below w.heap.size w w' := by
  have HN := Aside0.mk hN
  clear hN
  go_enter Tryd.func18, Tryd.ntmps18
  go_wp2_with (go_at_call 31; refine (quote_Needs.calls k a0 false _ HN.out).mono ?_; rintro e w1 ⟨rfl, ⟨nd, rfl⟩⟩)
  go_ret
  exact ⟨rfl, pw_below_drewN (Below.refl _ _) nd⟩
def quote_Quote.f (k : Nat) (a0 : ByteArray) : Option ByteArray :=
  (quote_Needs.f k a0).bind fun b => if b = true then (if a0.size ≤ 1099511627776 then some (strOfNums (quotedFrom a0 a0.size ++ [34])) else none) else some a0
theorem quote_Quote.mono : ∀ a0 k, LeO (quote_Quote.f k a0) (quote_Quote.f (k + 1) a0) := by
  intro a0 k r h
  unfold quote_Quote.f at h ⊢
  obtain ⟨b, hb, h⟩ := Option.bind_eq_some_iff.mp h
  rw [quote_Needs.mono a0 k b hb]
  exact h
theorem quote_Quote.calls (k : Nat) (a0 : ByteArray) (r : ByteArray) (w : World) (h : quote_Quote.f k a0 = some r) :
    Calls Tryd.prog 18 #[.string a0] w fun e w' => e = .returned (.string r) ∧ Below w.heap.size w w' := by
  unfold quote_Quote.f at h
  obtain ⟨b, hb, h⟩ := Option.bind_eq_some_iff.mp h
  cases b with
  | true =>
    rw [if_pos rfl] at h
    by_cases hs : a0.size ≤ 1099511627776
    · rw [if_pos hs] at h
      obtain rfl := Option.some.inj h
      exact quote_yes k a0 w hb hs
    · rw [if_neg hs] at h; cases h
  | false =>
    rw [if_neg (by simp)] at h
    obtain rfl := Option.some.inj h
    exact quote_no k a0 w hb
end Go.Proofs.YtfempodohmhhlaaDoor.Ext
