/-
  quote, in plain Lean: when a name must be quoted, and how it is; the head of the statements by computation.
-/
import Derived.Test.YtljdeadakamhpaaDoorPp3
namespace Go.Proofs.YtljdeadakamhpaaDoor.Pure
open Go.RowKit Go.Proofs.YtljdeadakamhpaaDoor.Pp Go.Proofs.YtljdeadakamhpaaDoor.Ext Go.Proofs.YtljdeadakamhpaaDoor.P1 Go.Proofs.YtljdeadakamhpaaDoorW.PrintWords Go.Proofs.YtljdeadakamhpaaDoorW.PrintLast

theorem works_true : selvagelaw02_works.f 60 = some true := by decide +kernel
theorem works_ev : Ev (fun k => selvagelaw02_works.f k) true := Ev.of selvagelaw02_works.mono works_true
theorem w64 {i : Int} {n : Nat} (h0 : 0 ≤ i) (h : i < (n : Int)) (hn : n ≤ 140737488351232) : wrap64 (i + 1) = i + 1 := by
  unfold wrap64
  omega
theorem w64' {i : Int} (h0 : -9223372036854775808 ≤ i) (h1 : i ≤ 9223372036854775807) : wrap64 i = i := by
  unfold wrap64
  omega
theorem toList_nil (s : ByteArray) : s.toList = ([] : List UInt8) ↔ s.size = 0 := by
  rw [Lib.toList_data]
  constructor
  · intro h
    rw [← data_length, h]; rfl
  · intro h
    exact List.eq_nil_of_length_eq_zero ((data_length s).trans h)

/-- a byte that can't stand as it is -/
def bad (c : Int) : Bool := decide (c < 33) || decide (c ≥ 127) || c == 34 || c == 92
/-- one among the last d bytes -/
def ndf (s : ByteArray) : Nat → Bool
  | 0 => false
  | d + 1 => bad (bt s ((s.size : Int) - (d + 1))) || ndf s d

theorem needs_loop (s : ByteArray) (hn : s.size ≤ 140737488351232) (d : Nat) : ∀ (k : Nat) (i : Int), 0 ≤ i → (s.size : Int) - i = d → d < k → quote_Needs.l0 k s s.size i = some (ndf s d) := by
  induction d with
  | zero =>
    intro k i h0 hd hk
    obtain ⟨k, rfl⟩ : ∃ m, k = m + 1 := ⟨k - 1, by omega⟩
    simp only [quote_Needs.l0]
    rw [if_neg (by omega)]
    rfl
  | succ d ih =>
    intro k i h0 hd hk
    obtain ⟨k, rfl⟩ : ∃ m, k = m + 1 := ⟨k - 1, by omega⟩
    have hlt : i < (s.size : Int) := by omega
    have ei : i = (s.size : Int) - (d + 1) := by omega
    simp only [quote_Needs.l0]
    rw [if_pos hlt, if_pos h0, if_pos hlt]
    simp only [ndf, ← ei, bad]
    by_cases c1 : bt s i < 33
    · rw [if_pos c1]; simp [c1]
    · rw [if_neg c1]
      by_cases c2 : bt s i ≥ 127
      · rw [if_pos c2]; simp [c2]
      · rw [if_neg c2]
        by_cases c3 : bt s i = 34
        · rw [if_pos c3]; simp [c3]
        · rw [if_neg c3]
          by_cases c4 : bt s i = 92
          · rw [if_pos c4]; simp [c4]
          · rw [if_neg c4, w64 h0 hlt hn, ih k (i + 1) (by omega) (by omega) (by omega)]
            simp [c1, c2, c3, c4]
theorem refneeds_loop (s : ByteArray) (hn : s.size ≤ 140737488351232) (d : Nat) : ∀ (k : Nat) (i : Int), 0 ≤ i → (s.size : Int) - i = d → d < k → selvageref02_Needs.l0 k s i = some (ndf s d || (s.toList == ([] : List UInt8))) := by
  induction d with
  | zero =>
    intro k i h0 hd hk
    obtain ⟨k, rfl⟩ : ∃ m, k = m + 1 := ⟨k - 1, by omega⟩
    simp only [selvageref02_Needs.l0]
    rw [if_neg (by omega)]
    simp [ndf]
  | succ d ih =>
    intro k i h0 hd hk
    obtain ⟨k, rfl⟩ : ∃ m, k = m + 1 := ⟨k - 1, by omega⟩
    have hlt : i < (s.size : Int) := by omega
    have ei : i = (s.size : Int) - (d + 1) := by omega
    simp only [selvageref02_Needs.l0]
    rw [if_pos hlt, if_pos h0]
    simp only [ndf, ← ei, bad]
    by_cases c1 : bt s i < 33
    · rw [if_pos c1]; simp [c1]
    · rw [if_neg c1]
      by_cases c3 : bt s i = 34
      · rw [if_pos c3]; simp [c3]
      · rw [if_neg c3]
        by_cases c4 : bt s i = 92
        · rw [if_pos c4]; simp [c4]
        · rw [if_neg c4]
          by_cases c2 : bt s i ≥ 127
          · rw [if_pos c2]; simp [c2]
          · rw [if_neg c2, w64 h0 hlt hn, ih k (i + 1) (by omega) (by omega) (by omega)]
            have e3 : (bt s i == 34) = false := beq_eq_false_iff_ne.mpr c3
            have e4 : (bt s i == 92) = false := beq_eq_false_iff_ne.mpr c4
            simp [c1, c2, e3, e4]
/-- must it be quoted? -/
def needs (s : ByteArray) : Bool := ndf s s.size || (s.toList == ([] : List UInt8))
theorem needs_at (s : ByteArray) (hn : s.size ≤ 140737488351232) {k : Nat} (hk : s.size < k) : quote_Needs.f k s = some (needs s) := by
  unfold quote_Needs.f needs
  by_cases h : s.toList = ([] : List UInt8)
  · rw [if_pos h]; simp [h]
  · rw [if_neg h, needs_loop s hn s.size k 0 (by omega) (by omega) hk]
    simp [h]
theorem refneeds_at (s : ByteArray) (hn : s.size ≤ 140737488351232) {k : Nat} (hk : s.size < k) : selvageref02_Needs.f k s = some (needs s) :=
  refneeds_loop s hn s.size k 0 (by omega) (by omega) hk

/-- how a name is quoted -/
def quoted (s : ByteArray) : ByteArray := strOfNums (quotedFrom s s.size ++ [34])
def shown (s : ByteArray) : ByteArray := if needs s = true then quoted s else s
theorem quote_at (s : ByteArray) (hn : s.size ≤ 1099511627776) {k : Nat} (hk : s.size < k) : quote_Quote.f k s = some (shown s) := by
  unfold quote_Quote.f shown
  rw [needs_at s (by omega) hk]
  simp only [Option.bind_some]
  by_cases h : needs s = true
  · rw [if_pos h, if_pos h, if_pos hn]; rfl
  · rw [if_neg h, if_neg h]

theorem escape_all : ∀ n : Fin 256, (selvageref02_escape.f 12 (n.val : Int)).map bytesOf = some (esc (n.val : Int)) := by decide +kernel
theorem escape_at (c : Int) (h0 : 0 ≤ c) (h1 : c ≤ 255) {k : Nat} (hk : 12 ≤ k) : ∃ e, selvageref02_escape.f k c = some e ∧ bytesOf e = esc c := by
  have h := escape_all ⟨c.toNat, by omega⟩
  have e : ((c.toNat : Nat) : Int) = c := by omega
  simp only [e] at h
  obtain ⟨x, hx, hy⟩ := Option.map_eq_some_iff.mp h
  exact ⟨x, at_rounds (selvageref02_escape.mono c) hk hx, hy⟩
theorem refquote_loop (s : ByteArray) (hn : s.size ≤ 1099511627776) (d : Nat) : ∀ (k : Nat) (i : Nat), i + d = s.size → d + 13 ≤ k → selvageref02_Quote.l0 k s (quotedFrom s i) i = some (quoted s) := by
  induction d with
  | zero =>
    intro k i hd hk
    obtain ⟨k, rfl⟩ : ∃ m, k = m + 1 := ⟨k - 1, by omega⟩
    have hq := quotedFrom_length s i
    simp only [selvageref02_Quote.l0]
    rw [if_neg (by omega), if_pos (by omega)]
    obtain rfl : i = s.size := by omega
    rfl
  | succ d ih =>
    intro k i hd hk
    obtain ⟨k, rfl⟩ : ∃ m, k = m + 1 := ⟨k - 1, by omega⟩
    have hr := bt_range s i
    obtain ⟨e, he, hb⟩ := escape_at (bt s i) hr.1 hr.2 (k := k) (by omega)
    have hq := quotedFrom_length s i
    have hq1 := quotedFrom_length s (i + 1)
    have hes : e.size = (esc (bt s i)).length := by rw [← hb, bytesOf_length]
    simp only [quotedFrom, List.length_append] at hq1
    simp only [selvageref02_Quote.l0]
    rw [if_pos (by omega), if_pos (by omega), he]
    simp only [Option.bind_some]
    rw [if_pos (by omega), hb, w64' (by omega) (by omega)]
    have := ih k (i + 1) (by omega) (by omega)
    simp only [quotedFrom] at this
    exact this
theorem refquote_at (s : ByteArray) (hn : s.size ≤ 1099511627776) {k : Nat} (hk : s.size + 13 ≤ k) : selvageref02_Quote.f k s = some (shown s) := by
  unfold selvageref02_Quote.f shown
  rw [refneeds_at s (by omega) (by omega)]
  simp only [Option.bind_some]
  by_cases h : needs s = true
  · rw [if_pos h, if_pos h]
    exact refquote_loop s hn s.size k 0 (by omega) (by omega)
  · rw [if_neg h, if_neg h]

theorem works_at {k : Nat} (hk : 60 ≤ k) : selvagelaw02_works.f k = some true := at_rounds selvagelaw02_works.mono hk works_true
theorem QuoteNames : ∀ (a0 : ByteArray), (a0.size + 1) ≤ 1048576 → ∃ k, selvagelaw02_QuoteNames.f k a0 = some true := by
  intro a0 hn
  refine ⟨a0.size + 60, ?_⟩
  unfold selvagelaw02_QuoteNames.f
  rw [needs_at a0 (by omega) (by omega), refneeds_at a0 (by omega) (by omega), quote_at a0 (by omega) (by omega), refquote_at a0 (by omega) (by omega), works_at (by omega)]
  simp
end Go.Proofs.YtljdeadakamhpaaDoor.Pure
