/-
  Lemmas of elder texts of this session (PureA, PureB, PureC, PureD, PureE), over this seat's print.
-/
import Derived.Test.YtfempodohmhhlaaDoorEPure
import Derived.Test.YtfempodohmhhlaaDoorPp
import Derived.Lib.IndexAny
namespace Go.Proofs.YtfempodohmhhlaaDoor.Pure
open Go.RowKit Go.Proofs.YtfempodohmhhlaaDoor.Pp Go.Proofs.YtfempodohmhhlaaDoor.Ext Go.Proofs.YtfempodohmhhlaaDoorW.PrintWords Go.Proofs.YtfempodohmhhlaaDoorW.PrintLast
def bad (c : Int) : Bool := decide (c < 33) || decide (c ≥ 127) || c == 34 || c == 92
def ndf (s : ByteArray) : Nat → Bool
  | 0 => false
  | d + 1 => bad (bt s ((s.size : Int) - (d + 1))) || ndf s d
theorem needs_loop (s : ByteArray) (hn : s.size ≤ 140737488351232) (d : Nat) : ∀ (k : Nat) (i : Int), 0 ≤ i → (s.size : Int) - i = d → d < k → quote_Needs.l0 k s s.size i = some (ndf s d) := by
  induction d with
  | zero =>
    intro k i h0 hd hk
    obtain ⟨k, rfl⟩ : ∃ m, k = m + 1 := ⟨k - 1, by omega⟩
    simp only [quote_Needs.l0]
    rw [if_neg (by omega)]
    rfl
  | succ d ih =>
    intro k i h0 hd hk
    obtain ⟨k, rfl⟩ : ∃ m, k = m + 1 := ⟨k - 1, by omega⟩
    have hlt : i < (s.size : Int) := by omega
    have ei : i = (s.size : Int) - (d + 1) := by omega
    simp only [quote_Needs.l0]
    rw [if_pos hlt, if_pos h0, if_pos hlt]
    simp only [ndf, ← ei, bad]
    by_cases c1 : bt s i < 33
    · rw [if_pos c1]; simp [c1]
    · rw [if_neg c1]
      by_cases c2 : bt s i ≥ 127
      · rw [if_pos c2]; simp [c2]
      · rw [if_neg c2]
        by_cases c3 : bt s i = 34
        · rw [if_pos c3]; simp [c3]
        · rw [if_neg c3]
          by_cases c4 : bt s i = 92
          · rw [if_pos c4]; simp [c4]
          · rw [if_neg c4, w64 h0 hlt hn, ih k (i + 1) (by omega) (by omega) (by omega)]
            simp [c1, c2, c3, c4]
theorem refneeds_loop (s : ByteArray) (hn : s.size ≤ 140737488351232) (d : Nat) : ∀ (k : Nat) (i : Int), 0 ≤ i → (s.size : Int) - i = d → d < k → selvageref02_Needs.l0 k s i = some (ndf s d || (s.toList == ([] : List UInt8))) := by
  induction d with
  | zero =>
    intro k i h0 hd hk
    obtain ⟨k, rfl⟩ : ∃ m, k = m + 1 := ⟨k - 1, by omega⟩
    simp only [selvageref02_Needs.l0]
    rw [if_neg (by omega)]
    simp [ndf]
  | succ d ih =>
    intro k i h0 hd hk
    obtain ⟨k, rfl⟩ : ∃ m, k = m + 1 := ⟨k - 1, by omega⟩
    have hlt : i < (s.size : Int) := by omega
    have ei : i = (s.size : Int) - (d + 1) := by omega
    simp only [selvageref02_Needs.l0]
    rw [if_pos hlt, if_pos h0]
    simp only [ndf, ← ei, bad]
    by_cases c1 : bt s i < 33
    · rw [if_pos c1]; simp [c1]
    · rw [if_neg c1]
      by_cases c3 : bt s i = 34
      · rw [if_pos c3]; simp [c3]
      · rw [if_neg c3]
        by_cases c4 : bt s i = 92
        · rw [if_pos c4]; simp [c4]
        · rw [if_neg c4]
          by_cases c2 : bt s i ≥ 127
          · rw [if_pos c2]; simp [c2]
          · rw [if_neg c2, w64 h0 hlt hn, ih k (i + 1) (by omega) (by omega) (by omega)]
            have e3 : (bt s i == 34) = false := beq_eq_false_iff_ne.mpr c3
            have e4 : (bt s i == 92) = false := beq_eq_false_iff_ne.mpr c4
            simp [c1, c2, e3, e4]
def needs (s : ByteArray) : Bool := ndf s s.size || (s.toList == ([] : List UInt8))
theorem needs_at (s : ByteArray) (hn : s.size ≤ 140737488351232) {k : Nat} (hk : s.size < k) : quote_Needs.f k s = some (needs s) := by
  unfold quote_Needs.f needs
  by_cases h : s.toList = ([] : List UInt8)
  · rw [if_pos h]; simp [h]
  · rw [if_neg h, needs_loop s hn s.size k 0 (by omega) (by omega) hk]
    simp [h]
theorem refneeds_at (s : ByteArray) (hn : s.size ≤ 140737488351232) {k : Nat} (hk : s.size < k) : selvageref02_Needs.f k s = some (needs s) :=
  refneeds_loop s hn s.size k 0 (by omega) (by omega) hk
def quoted (s : ByteArray) : ByteArray := strOfNums (quotedFrom s s.size ++ [34])
def shown (s : ByteArray) : ByteArray := if needs s = true then quoted s else s
theorem quote_at (s : ByteArray) (hn : s.size ≤ 1099511627776) {k : Nat} (hk : s.size < k) : quote_Quote.f k s = some (shown s) := by
  unfold quote_Quote.f shown
  rw [needs_at s (by omega) hk]
  simp only [Option.bind_some]
  by_cases h : needs s = true
  · rw [if_pos h, if_pos h, if_pos hn]; rfl
  · rw [if_neg h, if_neg h]
theorem escape_all : ∀ n : Fin 256, (selvageref02_escape.f 12 (n.val : Int)).map bytesOf = some (esc (n.val : Int)) := by decide +kernel
theorem escape_at (c : Int) (h0 : 0 ≤ c) (h1 : c ≤ 255) {k : Nat} (hk : 12 ≤ k) : ∃ e, selvageref02_escape.f k c = some e ∧ bytesOf e = esc c := by
  have h := escape_all ⟨c.toNat, by omega⟩
  have e : ((c.toNat : Nat) : Int) = c := by omega
  simp only [e] at h
  obtain ⟨x, hx, hy⟩ := Option.map_eq_some_iff.mp h
  exact ⟨x, at_rounds (selvageref02_escape.mono c) hk hx, hy⟩
theorem refquote_loop (s : ByteArray) (hn : s.size ≤ 1099511627776) (d : Nat) : ∀ (k : Nat) (i : Nat), i + d = s.size → d + 13 ≤ k → selvageref02_Quote.l0 k s (quotedFrom s i) i = some (quoted s) := by
  induction d with
  | zero =>
    intro k i hd hk
    obtain ⟨k, rfl⟩ : ∃ m, k = m + 1 := ⟨k - 1, by omega⟩
    have hq := quotedFrom_length s i
    simp only [selvageref02_Quote.l0]
    rw [if_neg (by omega), if_pos (by omega)]
    obtain rfl : i = s.size := by omega
    rfl
  | succ d ih =>
    intro k i hd hk
    obtain ⟨k, rfl⟩ : ∃ m, k = m + 1 := ⟨k - 1, by omega⟩
    have hr := bt_range s i
    obtain ⟨e, he, hb⟩ := escape_at (bt s i) hr.1 hr.2 (k := k) (by omega)
    have hq := quotedFrom_length s i
    have hq1 := quotedFrom_length s (i + 1)
    have hes : e.size = (esc (bt s i)).length := by rw [← hb, bytesOf_length]
    simp only [quotedFrom, List.length_append] at hq1
    simp only [selvageref02_Quote.l0]
    rw [if_pos (by omega), if_pos (by omega), he]
    simp only [Option.bind_some]
    rw [if_pos (by omega), hb, w64' (by omega) (by omega)]
    have := ih k (i + 1) (by omega) (by omega)
    simp only [quotedFrom] at this
    exact this
theorem refquote_at (s : ByteArray) (hn : s.size ≤ 1099511627776) {k : Nat} (hk : s.size + 13 ≤ k) : selvageref02_Quote.f k s = some (shown s) := by
  unfold selvageref02_Quote.f shown
  rw [refneeds_at s (by omega) (by omega)]
  simp only [Option.bind_some]
  by_cases h : needs s = true
  · rw [if_pos h, if_pos h]
    exact refquote_loop s hn s.size k 0 (by omega) (by omega)
  · rw [if_neg h, if_neg h]
def octD (c : Int) : Bool := decide (48 ≤ c) && decide (c ≤ 55)
def octV (a b c : Int) : Int := (a - 48) * 64 + (b - 48) * 8 + (c - 48)
theorem octal_at (s : ByteArray) {k : Nat} (hk : 6 ≤ k) :
    quote_octal.f k s = some (if s.size ≥ 3 ∧ octD (bt s 0) = true ∧ bt s 0 ≤ 51 ∧ octD (bt s 1) = true ∧ octD (bt s 2) = true then (octV (bt s 0) (bt s 1) (bt s 2) % 256, true) else (0, false)) := by
  refine at_rounds (quote_octal.mono s) hk ?_
  have r0 := bt_range s 0
  have r1 := bt_range s 1
  have r2 := bt_range s 2
  have w1 : wrap64 (0 + 1) = 1 := by decide +kernel
  have w2 : wrap64 (1 + 1) = 2 := by decide +kernel
  have w3 : wrap64 (2 + 1) = 3 := by decide +kernel
  have w0 : wrap64 (0 * 8) = 0 := by decide +kernel
  unfold quote_octal.f
  by_cases h3 : s.size < 3
  · rw [if_pos (by omega), if_neg (by omega)]
    simp [quote_octal.j0]
  · rw [if_neg (by omega), if_pos (by omega)]
    simp only [quote_octal.j0, quote_octal.l0, w0, w1, w2, w3]
    have z0 : (0 : Int) < (s.size : Int) := by omega
    have z1 : (1 : Int) < (s.size : Int) := by omega
    have z2 : (2 : Int) < (s.size : Int) := by omega
    simp only [z0, z1, z2, if_true]
    generalize bt s 0 = a at *
    generalize bt s 1 = b at *
    generalize bt s 2 = c at *
    by_cases ha : a > 51
    · have : ¬ a ≤ 51 := by omega
      simp [ha, this, octD]
    · by_cases ha2 : a < 48
      · have : ¬ 48 ≤ a := by omega
        simp [ha, ha2, this, octD]
      · have ha3 : ¬ a > 55 := by omega
        by_cases hb1 : b < 48
        · have : ¬ 48 ≤ b := by omega
          simp [ha, ha2, ha3, hb1, this, octD]
        · by_cases hb2 : b > 55
          · have : ¬ b ≤ 55 := by omega
            simp [ha, ha2, ha3, hb1, hb2, this, octD]
          · by_cases hc1 : c < 48
            · have : ¬ 48 ≤ c := by omega
              simp [ha, ha2, ha3, hb1, hb2, hc1, this, octD]
            · by_cases hc2 : c > 55
              · have : ¬ c ≤ 55 := by omega
                simp [ha, ha2, ha3, hb1, hb2, hc1, hc2, this, octD]
              · have e : s.size ≥ 3 ∧ octD a = true ∧ a ≤ 51 ∧ octD b = true ∧ octD c = true := by
                  simp only [octD, Bool.and_eq_true, decide_eq_true_eq]
                  omega
                rw [if_pos e]
                rw [if_neg (by simp [ha]), if_pos (by omega), if_pos (by omega), if_neg ha2, if_neg ha3, if_pos (by omega), if_pos (by omega), if_neg hb1, if_neg hb2, if_pos (by omega), if_pos (by omega), if_neg hc1, if_neg hc2, if_neg (by omega)]
                have q : ∀ x : Int, 48 ≤ x → x ≤ 55 → (x - 48) % 256 = x - 48 := fun x _ _ => by omega
                rw [q a (by omega) (by omega), q b (by omega) (by omega), q c (by omega) (by omega)]
                unfold octV wrap64
                congr 2
                omega
theorem refoctal (c : Int) (h0 : 0 ≤ c) (h1 : c ≤ 255) : selvageref02_octal.f c = some (if octD c = true then c - 48 else -1) := by
  unfold selvageref02_octal.f octD
  by_cases a : c ≥ 48
  · by_cases b : c ≤ 55
    · rw [if_pos a, if_pos b, w64' (i := c) (by omega) (by omega), w64' (by omega) (by omega)]; simp [a, b]
    · rw [if_pos a, if_neg b]; simp [b]
  · have : ¬ 48 ≤ c := a
    rw [if_neg a]; simp [this]
theorem meant_all : ∀ n : Fin 256, (quote_meant.f 12 (n.val : Int)).isSome = true := by decide +kernel
def meantV (c : Int) : Int × Bool := (quote_meant.f 12 c).getD (0, false)
theorem meant_at (c : Int) (h0 : 0 ≤ c) (h1 : c ≤ 255) {k : Nat} (hk : 12 ≤ k) : quote_meant.f k c = some (meantV c) := by
  have h := meant_all ⟨c.toNat, by omega⟩
  have e : ((c.toNat : Nat) : Int) = c := by omega
  simp only [e] at h
  obtain ⟨x, hx⟩ := Option.isSome_iff_exists.mp h
  unfold meantV
  rw [at_rounds (quote_meant.mono c) hk hx, hx]
  rfl
def escV (b0 b1 b2 : Int) (big : Bool) : Int × Int :=
  if (meantV b0).2 = true then ((meantV b0).1, 2)
  else if big = true ∧ octD b0 = true ∧ b0 ≤ 51 ∧ octD b1 = true ∧ octD b2 = true then (octV b0 b1 b2 % 256, 4) else (0, 0)
theorem letters_all : ∀ n : Fin 256, ((n.val : Int) = 97 ∧ meantV n.val = (7, true)) ∨ ((n.val : Int) = 98 ∧ meantV n.val = (8, true)) ∨ ((n.val : Int) = 116 ∧ meantV n.val = (9, true)) ∨ ((n.val : Int) = 110 ∧ meantV n.val = (10, true)) ∨ ((n.val : Int) = 118 ∧ meantV n.val = (11, true)) ∨ ((n.val : Int) = 102 ∧ meantV n.val = (12, true)) ∨ ((n.val : Int) = 114 ∧ meantV n.val = (13, true)) ∨ ((n.val : Int) = 34 ∧ meantV n.val = (34, true)) ∨ ((n.val : Int) = 92 ∧ meantV n.val = (92, true)) ∨ (((n.val : Int) ≠ 97 ∧ (n.val : Int) ≠ 98 ∧ (n.val : Int) ≠ 116 ∧ (n.val : Int) ≠ 110 ∧ (n.val : Int) ≠ 118 ∧ (n.val : Int) ≠ 102 ∧ (n.val : Int) ≠ 114 ∧ (n.val : Int) ≠ 34 ∧ (n.val : Int) ≠ 92) ∧ meantV n.val = (0, false)) := by decide +kernel
theorem letters_at (c : Int) (h0 : 0 ≤ c) (h1 : c ≤ 255) : (c = 97 ∧ meantV c = (7, true)) ∨ (c = 98 ∧ meantV c = (8, true)) ∨ (c = 116 ∧ meantV c = (9, true)) ∨ (c = 110 ∧ meantV c = (10, true)) ∨ (c = 118 ∧ meantV c = (11, true)) ∨ (c = 102 ∧ meantV c = (12, true)) ∨ (c = 114 ∧ meantV c = (13, true)) ∨ (c = 34 ∧ meantV c = (34, true)) ∨ (c = 92 ∧ meantV c = (92, true)) ∨ ((c ≠ 97 ∧ c ≠ 98 ∧ c ≠ 116 ∧ c ≠ 110 ∧ c ≠ 118 ∧ c ≠ 102 ∧ c ≠ 114 ∧ c ≠ 34 ∧ c ≠ 92) ∧ meantV c = (0, false)) := by
  have h := letters_all ⟨c.toNat, by omega⟩
  have e : ((c.toNat : Nat) : Int) = c := by omega
  simp only [e] at h
  exact h
theorem read_tail (t : ByteArray) (h2 : ¬ t.size < 2) {k : Nat} : (if (t.size : Int) < 4 then (selvageref02_read.j2 (k + 1) t true) else (if 1 < (t.size : Int) then ((selvageref02_octal.f (bt t 1)).bind fun t152 => (if t152 < 0 then (selvageref02_read.j2 (k + 1) t true) else (if t152 > 3 then (selvageref02_read.j2 (k + 1) t true) else (if 2 < (t.size : Int) then ((selvageref02_octal.f (bt t 2)).bind fun t153 => (if t153 < 0 then (selvageref02_read.j2 (k + 1) t true) else (if 3 < (t.size : Int) then ((selvageref02_octal.f (bt t 3)).bind fun t154 => (selvageref02_read.j2 (k + 1) t (decide (t154 < 0)))) else (none)))) else (none))))) else (none)))
    = some (if t.size ≥ 4 ∧ octD (bt t 1) = true ∧ bt t 1 ≤ 51 ∧ octD (bt t 2) = true ∧ octD (bt t 3) = true then (octV (bt t 1) (bt t 2) (bt t 3) % 256, 4) else (0, 0)) := by
  have r1 := bt_range t 1
  have r2 := bt_range t 2
  have r3 := bt_range t 3
  have jt : selvageref02_read.j2 (k + 1) t true = some (0, 0) := by simp [selvageref02_read.j2]
  by_cases h4 : t.size < 4
  · rw [if_pos (by omega), jt, if_neg (by omega)]
  · rw [if_neg (by omega), if_pos (by omega), refoctal _ r1.1 r1.2]
    simp only [Option.bind_some]
    by_cases o1 : octD (bt t 1) = true
    · have q1 : 48 ≤ bt t 1 ∧ bt t 1 ≤ 55 := by simpa [octD] using o1
      rw [if_pos o1, if_neg (by omega)]
      by_cases h51 : bt t 1 ≤ 51
      · rw [if_neg (by omega), if_pos (by omega), refoctal _ r2.1 r2.2]
        simp only [Option.bind_some]
        by_cases o2 : octD (bt t 2) = true
        · have q2 : 48 ≤ bt t 2 ∧ bt t 2 ≤ 55 := by simpa [octD] using o2
          rw [if_pos o2, if_neg (by omega), if_pos (by omega), refoctal _ r3.1 r3.2]
          simp only [Option.bind_some]
          by_cases o3 : octD (bt t 3) = true
          · have q3 : 48 ≤ bt t 3 ∧ bt t 3 ≤ 55 := by simpa [octD] using o3
            rw [if_pos o3, if_pos ⟨by omega, o1, h51, o2, o3⟩]
            have hd : decide (bt t 3 - 48 < 0) = false := decide_eq_false (by omega)
            rw [hd]
            simp only [selvageref02_read.j2]
            rw [if_neg (by simp), if_pos (by omega), refoctal _ r1.1 r1.2, if_pos o1]
            simp only [Option.bind_some]
            rw [if_pos (by omega), refoctal _ r2.1 r2.2, if_pos o2]
            simp only [Option.bind_some]
            rw [if_pos (by omega), refoctal _ r3.1 r3.2, if_pos o3]
            simp only [Option.bind_some]
            unfold octV wrap64
            congr 2
            omega
          · rw [if_neg o3, if_neg (fun h => o3 h.2.2.2.2)]
            simp [selvageref02_read.j2]
        · rw [if_neg o2, if_pos (by omega), jt, if_neg (fun h => o2 h.2.2.2.1)]
      · rw [if_pos (by omega), jt, if_neg (fun h => h51 h.2.2.1)]
    · rw [if_neg o1, if_pos (by omega), jt, if_neg (fun h => o1 h.2.1)]
theorem read_at (t : ByteArray) {k : Nat} (hk : 14 ≤ k) : selvageref02_read.f k t = some (if t.size ≥ 2 ∧ bt t 0 = 92 then escV (bt t 1) (bt t 2) (bt t 3) (decide (t.size ≥ 4)) else (0, 0)) := by
  refine at_rounds (selvageref02_read.mono t) hk ?_
  unfold selvageref02_read.f
  by_cases h2 : t.size < 2
  · rw [if_pos (by omega), if_neg (by omega)]
    simp [selvageref02_read.j0]
  · rw [if_neg (by omega), if_pos (by omega)]
    by_cases h92 : bt t 0 = 92
    · have e : (bt t 0 != 92) = false := by simp [h92]
      rw [e, if_pos ⟨by omega, h92⟩]
      simp only [selvageref02_read.j0]
      rw [if_neg (by simp)]
      have r1 := bt_range t 1
      have z1 : (1 : Int) < (t.size : Int) := by omega
      have w1 : wrap64 (0 + 1) = 1 := by decide +kernel
      have w2 : wrap64 (1 + 1) = 2 := by decide +kernel
      have w3 : wrap64 (2 + 1) = 3 := by decide +kernel
      have w4 : wrap64 (3 + 1) = 4 := by decide +kernel
      have w5 : wrap64 (4 + 1) = 5 := by decide +kernel
      have w6 : wrap64 (5 + 1) = 6 := by decide +kernel
      have w7 : wrap64 (6 + 1) = 7 := by decide +kernel
      have w8 : wrap64 (7 + 1) = 8 := by decide +kernel
      have w9 : wrap64 (8 + 1) = 9 := by decide +kernel
      obtain ⟨L, hL⟩ : ∃ L : ByteArray, (⟨#[97, 98, 116, 110, 118, 102, 114, 34, 92]⟩ : ByteArray) = L := ⟨_, rfl⟩
      obtain ⟨C, hC⟩ : ∃ C : ByteArray, (⟨#[7, 8, 9, 10, 11, 12, 13, 34, 92]⟩ : ByteArray) = C := ⟨_, rfl⟩
      have l0 : bt L 0 = 97 := by rw [← hL]; rfl
      have l1 : bt L 1 = 98 := by rw [← hL]; rfl
      have l2 : bt L 2 = 116 := by rw [← hL]; rfl
      have l3 : bt L 3 = 110 := by rw [← hL]; rfl
      have l4 : bt L 4 = 118 := by rw [← hL]; rfl
      have l5 : bt L 5 = 102 := by rw [← hL]; rfl
      have l6 : bt L 6 = 114 := by rw [← hL]; rfl
      have l7 : bt L 7 = 34 := by rw [← hL]; rfl
      have l8 : bt L 8 = 92 := by rw [← hL]; rfl
      have c0 : bt C 0 = 7 := by rw [← hC]; rfl
      have c1 : bt C 1 = 8 := by rw [← hC]; rfl
      have c2 : bt C 2 = 9 := by rw [← hC]; rfl
      have c3 : bt C 3 = 10 := by rw [← hC]; rfl
      have c4 : bt C 4 = 11 := by rw [← hC]; rfl
      have c5 : bt C 5 = 12 := by rw [← hC]; rfl
      have c6 : bt C 6 = 13 := by rw [← hC]; rfl
      have c7 : bt C 7 = 34 := by rw [← hC]; rfl
      have c8 : bt C 8 = 92 := by rw [← hC]; rfl
      have step : ∀ (k : Nat) (j : Int), 0 ≤ j → j < 9 → selvageref02_read.l0 (k + 1) t j = if bt L j = bt t 1 then some (bt C j, 2) else selvageref02_read.l0 k t (wrap64 (j + 1)) := by
        intro k j hj hj9
        simp only [selvageref02_read.l0, hL, hC]
        rw [if_pos hj9, if_pos hj, if_pos z1]
      have last : ∀ k : Nat, selvageref02_read.l0 (k + 2) t 9 = some (if t.size ≥ 4 ∧ octD (bt t 1) = true ∧ bt t 1 ≤ 51 ∧ octD (bt t 2) = true ∧ octD (bt t 3) = true then (octV (bt t 1) (bt t 2) (bt t 3) % 256, 4) else (0, 0)) := by
        intro k
        rw [← read_tail t h2 (k := k)]
        simp only [selvageref02_read.l0]
        rw [if_neg (by omega)]
      have hE : escV (bt t 1) (bt t 2) (bt t 3) (decide (t.size ≥ 4)) = if (meantV (bt t 1)).2 = true then ((meantV (bt t 1)).1, 2) else if t.size ≥ 4 ∧ octD (bt t 1) = true ∧ bt t 1 ≤ 51 ∧ octD (bt t 2) = true ∧ octD (bt t 3) = true then (octV (bt t 1) (bt t 2) (bt t 3) % 256, 4) else (0, 0) := by
        unfold escV
        simp only [decide_eq_true_eq]
      rw [hE]
      have hlet := letters_at (bt t 1) r1.1 r1.2
      rw [step 12 0 (by omega) (by omega), w1, step 11 1 (by omega) (by omega), w2, step 10 2 (by omega) (by omega), w3, step 9 3 (by omega) (by omega), w4, step 8 4 (by omega) (by omega), w5, step 7 5 (by omega) (by omega), w6, step 6 6 (by omega) (by omega), w7, step 5 7 (by omega) (by omega), w8, step 4 8 (by omega) (by omega), w9, last 2]
      rw [l0, l1, l2, l3, l4, l5, l6, l7, l8, c0, c1, c2, c3, c4, c5, c6, c7, c8]
      rcases hlet with ⟨hb, hm⟩ | ⟨hb, hm⟩ | ⟨hb, hm⟩ | ⟨hb, hm⟩ | ⟨hb, hm⟩ | ⟨hb, hm⟩ | ⟨hb, hm⟩ | ⟨hb, hm⟩ | ⟨hb, hm⟩ | ⟨⟨n1, n2, n3, n4, n5, n6, n7, n8, n9⟩, hm⟩
      · rw [hm, hb]; rfl
      · rw [hm, hb]; rfl
      · rw [hm, hb]; rfl
      · rw [hm, hb]; rfl
      · rw [hm, hb]; rfl
      · rw [hm, hb]; rfl
      · rw [hm, hb]; rfl
      · rw [hm, hb]; rfl
      · rw [hm, hb]; rfl
      · rw [hm, if_neg (fun h => n1 h.symm), if_neg (fun h => n2 h.symm), if_neg (fun h => n3 h.symm), if_neg (fun h => n4 h.symm), if_neg (fun h => n5 h.symm), if_neg (fun h => n6 h.symm), if_neg (fun h => n7 h.symm), if_neg (fun h => n8 h.symm), if_neg (fun h => n9 h.symm)]
        rfl
    · have e : (bt t 0 != 92) = true := by simp [h92]
      rw [e, if_neg (fun h => h92 h.2)]
      simp [selvageref02_read.j0]
abbrev octAt (s : ByteArray) (i : Nat) : Prop :=
  i + 4 ≤ s.size ∧ octD (bt s ((i + 1 : Nat) : Int)) = true ∧ bt s ((i + 1 : Nat) : Int) ≤ 51 ∧ octD (bt s ((i + 2 : Nat) : Int)) = true ∧ octD (bt s ((i + 3 : Nat) : Int)) = true
def octOf (s : ByteArray) (i : Nat) : Int := octV (bt s ((i + 1 : Nat) : Int)) (bt s ((i + 2 : Nat) : Int)) (bt s ((i + 3 : Nat) : Int)) % 256
theorem octal_ext (s : ByteArray) (i : Nat) {k : Nat} (hk : 6 ≤ k) :
    quote_octal.f k (s.extract (i + 1) s.size) = some (if octAt s i then (octOf s i, true) else (0, false)) := by
  rw [octal_at _ hk, size_cut]
  unfold octAt octOf
  by_cases h : i + 4 ≤ s.size
  · have e0 : bt (s.extract (i + 1) s.size) 0 = bt s ((i + 1 : Nat) : Int) := bt_extract s (i + 1) s.size 0 (by omega)
    have e1 : bt (s.extract (i + 1) s.size) 1 = bt s ((i + 2 : Nat) : Int) := bt_extract s (i + 1) s.size 1 (by omega)
    have e2 : bt (s.extract (i + 1) s.size) 2 = bt s ((i + 3 : Nat) : Int) := bt_extract s (i + 1) s.size 2 (by omega)
    rw [e0, e1, e2]
    have : s.size - (i + 1) ≥ 3 := by omega
    simp only [this, h, true_and]
  · rw [if_neg (by omega), if_neg (fun h2 => h h2.1)]
theorem read_ext (s : ByteArray) (i : Nat) (h92 : bt s (i : Int) = 92) (hi : i < s.size) {k : Nat} (hk : 14 ≤ k) :
    selvageref02_read.f k (s.extract i s.size) = some (if i + 2 ≤ s.size then (if (meantV (bt s ((i + 1 : Nat) : Int))).2 = true then ((meantV (bt s ((i + 1 : Nat) : Int))).1, 2) else if octAt s i then (octOf s i, 4) else (0, 0)) else (0, 0)) := by
  rw [read_at _ hk, size_cut]
  have e0 : bt (s.extract i s.size) 0 = bt s ((i : Nat) : Int) := bt_extract s i s.size 0 (by omega)
  rw [e0]
  by_cases h2 : i + 2 ≤ s.size
  · have e1 : bt (s.extract i s.size) 1 = bt s ((i + 1 : Nat) : Int) := bt_extract s i s.size 1 (by omega)
    rw [if_pos ⟨by omega, h92⟩, if_pos h2, e1]
    unfold escV octAt octOf
    congr 1
    split
    · rfl
    · by_cases h4 : i + 4 ≤ s.size
      · have e2 : bt (s.extract i s.size) 2 = bt s ((i + 2 : Nat) : Int) := bt_extract s i s.size 2 (by omega)
        have e3 : bt (s.extract i s.size) 3 = bt s ((i + 3 : Nat) : Int) := bt_extract s i s.size 3 (by omega)
        rw [e2, e3]
        have : s.size - i ≥ 4 := by omega
        simp only [this, h4, decide_true, true_and]
      · have : decide (s.size - i ≥ 4) = false := decide_eq_false (by omega)
        rw [this, if_neg (by simp), if_neg (fun h => h4 h.1)]
  · rw [if_neg (by omega), if_neg h2]
def uq (s : ByteArray) : Nat → Nat → List Int → Option (List Int × Nat)
  | 0, _, _ => none
  | d + 1, i, acc =>
    if i < s.size then
      if bt s (i : Int) = 34 then some (acc, i + 1)
      else if bt s (i : Int) = 10 then none
      else if bt s (i : Int) = 92 then
        if i + 2 ≤ s.size then
          if (meantV (bt s ((i + 1 : Nat) : Int))).2 = true then uq s d (i + 2) (acc ++ [(meantV (bt s ((i + 1 : Nat) : Int))).1])
          else if octAt s i then uq s d (i + 4) (acc ++ [octOf s i]) else none
        else none
      else uq s d (i + 1) (acc ++ [bt s (i : Int)])
    else none
def uqOut (s : ByteArray) : Option (List Int × Nat) → ByteArray × ByteArray × Option Int
  | none => (⟨#[]⟩, ⟨#[]⟩, some 20)
  | some (l, j) => (strOfNums l, s.extract j s.size, none)
def errNum : Option Int → Int
  | none => 0
  | some n => n
def uqOutR (s : ByteArray) (r : Option (List Int × Nat)) : ByteArray × ByteArray × Int := ((uqOut s r).1, (uqOut s r).2.1, errNum (uqOut s r).2.2)
theorem prog_loop (s : ByteArray) (hn : s.size ≤ 140737488351232) (d : Nat) : ∀ (k i : Nat) (acc : List Int), s.size < i + d → i ≤ s.size → acc.length ≤ i → d + 12 ≤ k →
    quote_Unquote.l0 k s acc (i : Int) = some (uqOut s (uq s d i acc)) := by
  induction d with
  | zero => intro k i acc hd hi _ _; omega
  | succ d ih =>
    intro k i acc hd hi hacc hk
    obtain ⟨k, rfl⟩ : ∃ m, k = m + 1 := ⟨k - 1, by omega⟩
    have w1 : wrap64 ((i : Int) + 1) = ((i + 1 : Nat) : Int) := w_add i 1 (by omega)
    have w2 : wrap64 ((i : Int) + 2) = ((i + 2 : Nat) : Int) := w_add i 2 (by omega)
    have w4 : wrap64 ((i : Int) + 4) = ((i + 4 : Nat) : Int) := w_add i 4 (by omega)
    simp only [quote_Unquote.l0, uq, w1, w2, w4, Int.toNat_natCast]
    by_cases h : i < s.size
    · rw [if_pos (by omega), if_pos (by omega), if_pos h]
      by_cases c34 : bt s (i : Int) = 34
      · rw [if_pos c34, if_pos c34, if_pos (by omega), if_pos (by omega)]; rfl
      · rw [if_neg c34, if_neg c34]
        by_cases c10 : bt s (i : Int) = 10
        · rw [if_pos c10, if_pos c10]; rfl
        · rw [if_neg c10, if_neg c10]
          by_cases c92 : bt s (i : Int) = 92
          · rw [if_pos c92, if_pos c92, if_pos (by omega), if_pos (by omega), size_cut]
            by_cases h2 : i + 2 ≤ s.size
            · have hne : ¬ (s.extract (i + 1) s.size).toList = ([] : List UInt8) := by rw [toList_nil, size_cut]; omega
              have e0 : bt (s.extract (i + 1) s.size) 0 = bt s ((i + 1 : Nat) : Int) := bt_extract s (i + 1) s.size 0 (by omega)
              have r := bt_range s ((i + 1 : Nat) : Int)
              rw [if_neg hne, if_pos (by omega), if_pos h2, e0, meant_at _ r.1 r.2 (by omega)]
              simp only [Option.bind_some]
              by_cases m : (meantV (bt s ((i + 1 : Nat) : Int))).2 = true
              · rw [if_pos m, if_pos m, if_pos (by omega)]
                exact ih k (i + 2) _ (by omega) h2 (by simp; omega) (by omega)
              · rw [if_neg m, if_neg m, octal_ext s i (by omega)]
                simp only [Option.bind_some]
                by_cases o : octAt s i
                · rw [if_pos o, if_pos o, if_pos rfl, if_pos (by omega)]
                  exact ih k (i + 4) _ (by omega) o.1 (by simp; omega) (by omega)
                · rw [if_neg o, if_neg o, if_neg (by simp)]; rfl
            · have hne : (s.extract (i + 1) s.size).toList = ([] : List UInt8) := by rw [toList_nil, size_cut]; omega
              rw [if_pos hne, if_neg h2]; rfl
          · rw [if_neg c92, if_neg c92, if_pos (by omega)]
            exact ih k (i + 1) _ (by omega) (by omega) (by simp; omega) (by omega)
    · rw [if_neg (by omega), if_neg h]; rfl
theorem ref_loop (s : ByteArray) (hn : s.size ≤ 140737488351232) (d : Nat) : ∀ (k i : Nat) (acc : List Int), s.size < i + d → i ≤ s.size → acc.length ≤ i → 2 * d + 16 ≤ k →
    selvageref02_Unquote.l1 k s acc (i : Int) = some (uqOutR s (uq s d i acc)) := by
  induction d with
  | zero => intro k i acc hd hi _ _; omega
  | succ d ih =>
    intro k i acc hd hi hacc hk
    obtain ⟨k, rfl⟩ : ∃ m, k = m + 2 := ⟨k - 2, by omega⟩
    have w1 : wrap64 ((i : Int) + 1) = ((i + 1 : Nat) : Int) := w_add i 1 (by omega)
    have w2 : wrap64 ((i : Int) + 2) = ((i + 2 : Nat) : Int) := w_add i 2 (by omega)
    have w4 : wrap64 ((i : Int) + 4) = ((i + 4 : Nat) : Int) := w_add i 4 (by omega)
    simp only [selvageref02_Unquote.l1, selvageref02_Unquote.j3, uq, w1, Int.toNat_natCast]
    by_cases h : i < s.size
    · rw [if_pos (by omega), if_pos (by omega), if_pos h]
      by_cases c34 : bt s (i : Int) = 34
      · have c10 : ¬ bt s (i : Int) = 10 := by omega
        rw [if_pos c34, if_pos c34, if_neg (by simp), if_neg (by omega), if_pos (by omega), if_pos (by omega), if_neg c10, if_pos (by omega), if_pos (by omega)]; rfl
      · rw [if_neg c34, if_neg c34]
        by_cases c10 : bt s (i : Int) = 10
        · rw [if_neg (by simp [c10]), if_neg (by omega), if_pos (by omega), if_pos (by omega), if_pos c10, if_pos c10]; rfl
        · rw [if_pos (by simp [c10]), if_pos (by omega), if_pos (by omega), if_neg c10]
          by_cases c92 : bt s (i : Int) = 92
          · rw [if_pos c92, if_pos c92, if_pos (by omega), read_ext s i c92 h (by omega)]
            simp only [Option.bind_some]
            by_cases h2 : i + 2 ≤ s.size
            · rw [if_pos h2, if_pos h2]
              by_cases m : (meantV (bt s ((i + 1 : Nat) : Int))).2 = true
              · rw [if_pos m, if_pos m, if_neg (by simp), if_pos (by omega)]
                simp only [w2]
                exact ih k (i + 2) _ (by omega) h2 (by simp; omega) (by omega)
              · rw [if_neg m, if_neg m]
                by_cases o : octAt s i
                · rw [if_pos o, if_pos o, if_neg (by simp), if_pos (by omega)]
                  simp only [w4]
                  exact ih k (i + 4) _ (by omega) o.1 (by simp; omega) (by omega)
                · rw [if_neg o, if_neg o, if_pos rfl]; rfl
            · rw [if_neg h2, if_neg h2, if_pos rfl]; rfl
          · rw [if_neg c92, if_neg c92, if_pos (by omega)]
            exact ih k (i + 1) _ (by omega) (by omega) (by simp; omega) (by omega)
    · rw [if_neg (by omega), if_neg (by simp), if_pos (by omega), if_neg h]; rfl
def ua (s : ByteArray) : Nat → Nat → Nat
  | 0, i => i
  | d + 1, i => if i < s.size then (if bt s (i : Int) = 9 then i else if bt s (i : Int) = 10 then i else ua s d (i + 1)) else i
theorem ref_plain (s : ByteArray) (hn : s.size ≤ 140737488351232) (d : Nat) : ∀ (k i : Nat), s.size < i + d → i ≤ s.size → d ≤ k →
    selvageref02_Unquote.l0 k s (i : Int) = some (s.extract 0 (ua s d i), s.extract (ua s d i) s.size, 0) := by
  induction d with
  | zero => intro k i hd hi _; omega
  | succ d ih =>
    intro k i hd hi hk
    obtain ⟨k, rfl⟩ : ∃ m, k = m + 1 := ⟨k - 1, by omega⟩
    have w1 : wrap64 ((i : Int) + 1) = ((i + 1 : Nat) : Int) := w_add i 1 (by omega)
    simp only [selvageref02_Unquote.l0, ua, w1, Int.toNat_natCast]
    by_cases h : i < s.size
    · rw [if_pos (by omega), if_pos (by omega), if_pos h]
      by_cases c9 : bt s (i : Int) = 9
      · rw [if_pos c9, if_pos c9, if_pos (by omega)]
      · rw [if_neg c9, if_neg c9]
        by_cases c10 : bt s (i : Int) = 10
        · rw [if_pos c10, if_pos c10, if_pos (by omega)]
        · rw [if_neg c10, if_neg c10]
          exact ih k (i + 1) (by omega) (by omega) (by omega)
    · rw [if_neg (by omega), if_pos (by omega), if_pos (by omega), if_neg h]
def tl : List UInt8 := [9, 10]
theorem tl_byte (s : ByteArray) (j : Nat) (x : UInt8) (hx : s.data.toList[j]? = some x) : tl.contains x = true ↔ (bt s (j : Int) = 9 ∨ bt s (j : Int) = 10) := by
  rw [bt_list, List.getD_eq_getElem?_getD, hx]
  simp only [tl, Option.getD_some, List.contains_cons, List.contains_nil, Bool.or_false, Bool.or_eq_true, beq_iff_eq]
  constructor
  · rintro (rfl | rfl)
    · exact Or.inl rfl
    · exact Or.inr rfl
  · rintro (h | h)
    · exact Or.inl (UInt8.toNat_inj.mp (by have : (9 : UInt8).toNat = 9 := rfl; omega))
    · exact Or.inr (UInt8.toNat_inj.mp (by have : (10 : UInt8).toNat = 10 := rfl; omega))
theorem any_at (s : ByteArray) (d : Nat) : ∀ i : Nat, s.size < i + d → i ≤ s.size → Lib.NoAny s.data.toList tl i →
    (if Lib.indexAny s.data.toList tl < 0 then (s.size : Int) else Lib.indexAny s.data.toList tl) = ((ua s d i : Nat) : Int) := by
  induction d with
  | zero => intro i hd hi _; omega
  | succ d ih =>
    intro i hd hi hno
    simp only [ua]
    by_cases h : i < s.size
    · rw [if_pos h]
      have hx : s.data.toList[i]? = some (s[i]'h) := Lib.data_getElem? s i h
      have key := tl_byte s i _ hx
      by_cases c : bt s (i : Int) = 9 ∨ bt s (i : Int) = 10
      · rw [Lib.indexAny_hit hno hx (key.mpr c), if_neg (by omega)]
        rcases c with c | c
        · rw [if_pos c]
        · have : ¬ bt s (i : Int) = 9 := by omega
          rw [if_neg this, if_pos c]
      · rw [if_neg (fun h => c (Or.inl h)), if_neg (fun h => c (Or.inr h))]
        refine ih (i + 1) (by omega) (by omega) (hno.succ hx ?_)
        cases hc : tl.contains (s[i]'h) with
        | false => rfl
        | true => exact absurd (key.mp hc) c
    · rw [if_neg h]
      obtain rfl : i = s.size := by omega
      rw [Lib.indexAny_none (by rw [data_length]; exact hno), if_pos (by omega)]
theorem prefix_at (s : ByteArray) : strings_HasPrefix.f s (⟨#[34]⟩ : ByteArray) = some (decide (1 ≤ s.size) && (bt s 0 == 34)) := by
  unfold strings_HasPrefix.f stringslite_HasPrefix.f
  have hsz : (⟨#[34]⟩ : ByteArray).size = 1 := rfl
  rw [hsz]
  by_cases h : s.size ≥ 1
  · rw [if_pos (by omega), if_pos (by omega), if_pos (by omega)]
    simp only [Option.bind_some]
    have ht : (1 : Int).toNat = 1 := rfl
    have e : ((s.extract 0 ((1 : Nat) : Int).toNat).toList == (⟨#[34]⟩ : ByteArray).toList) = (bt s 0 == 34) := by
      have hl : (⟨#[34]⟩ : ByteArray).toList = [34] := by rw [Lib.toList_data]
      rw [hl, Int.toNat_natCast, Lib.toList_data, Lib.extract_data]
      have hb : bt s 0 = ((s.data.toList.getD 0 0).toNat : Int) := bt_list s 0
      rw [hb]
      have hlen := data_length s
      cases hd : s.data.toList with
      | nil => rw [hd] at hlen; simp at hlen; omega
      | cons x xs =>
        simp only [List.drop_zero, List.getD_cons_zero]
        have : (x == 34) = ((x.toNat : Int) == 34) := by
          rw [Bool.eq_iff_iff, beq_iff_eq, beq_iff_eq]
          constructor
          · rintro rfl; rfl
          · intro h; exact UInt8.toNat_inj.mp (by have : (34 : UInt8).toNat = 34 := rfl; omega)
        simp [this]
    first | rw [e] | (rw [show (s.extract 0 1) = (s.extract 0 ((1 : Nat) : Int).toNat) from rfl, e])
    simp [h]
  · rw [if_neg (by omega)]
    have : ¬ 1 ≤ s.size := by omega
    simp [this]
def unq (s : ByteArray) : ByteArray × ByteArray × Option Int :=
  if (decide (1 ≤ s.size) && (bt s 0 == 34)) = true then uqOut s (uq s s.size 1 []) else (s.extract 0 (ua s (s.size + 1) 0), s.extract (ua s (s.size + 1) 0) s.size, none)
theorem ua_le (s : ByteArray) (d : Nat) : ∀ i : Nat, i ≤ s.size → i ≤ ua s d i ∧ ua s d i ≤ s.size := by
  induction d with
  | zero => intro i hi; exact ⟨Nat.le_refl _, hi⟩
  | succ d ih =>
    intro i hi
    simp only [ua]
    split
    · split
      · exact ⟨Nat.le_refl _, hi⟩
      · split
        · exact ⟨Nat.le_refl _, hi⟩
        · have := ih (i + 1) (by omega)
          omega
    · exact ⟨Nat.le_refl _, hi⟩
theorem unquote_at (s : ByteArray) (hn : s.size ≤ 4000000000) {k : Nat} (hk : s.size + 12 ≤ k) : quote_Unquote.f k s = some (unq s) := by
  unfold quote_Unquote.f unq
  rw [prefix_at]
  simp only [Option.bind_some]
  by_cases hq : (decide (1 ≤ s.size) && (bt s 0 == 34)) = true
  · rw [if_pos hq, if_pos hq]
    have h1 : 1 ≤ s.size := by simp at hq; exact hq.1
    exact prog_loop s (by omega) s.size k 1 [] (by omega) h1 (by simp) (by omega)
  · rw [if_neg hq, if_neg hq]
    have hx : strings_IndexAny.f s (⟨#[9, 10]⟩ : ByteArray) = some (Lib.indexAny s.data.toList tl) := by
      unfold strings_IndexAny.f
      have hsz : (⟨#[9, 10]⟩ : ByteArray).size = 2 := rfl
      rw [hsz, if_pos]
      · rfl
      · refine ⟨by omega, ?_⟩
        decide
    rw [hx]
    simp only [Option.bind_some]
    have key := any_at s (s.size + 1) 0 (by omega) (by omega) (Lib.NoAny.zero _ _)
    have hb := ua_le s (s.size + 1) 0 (by omega)
    generalize ua s (s.size + 1) 0 = u at *
    generalize Lib.indexAny s.data.toList tl = x at *
    by_cases hx0 : x < 0
    · rw [if_pos hx0] at key
      rw [if_pos hx0, if_pos (by omega), if_pos (by omega)]
      obtain rfl : s.size = u := by omega
      first | rfl | rw [Int.toNat_natCast]
    · rw [if_neg hx0] at key
      rw [if_neg hx0, if_pos (by omega), if_pos (by omega)]
      subst key
      rw [Int.toNat_natCast]
theorem refunquote_at (s : ByteArray) (hn : s.size ≤ 4000000000) {k : Nat} (hk : 2 * s.size + 17 ≤ k) : selvageref02_Unquote.f k s = some ((unq s).1, (unq s).2.1, errNum (unq s).2.2) := by
  obtain ⟨k, rfl⟩ : ∃ m, k = m + 1 := ⟨k - 1, by omega⟩
  have jt : selvageref02_Unquote.j0 (k + 1) s [] true = selvageref02_Unquote.l0 k s 0 := by simp [selvageref02_Unquote.j0]
  have jf : selvageref02_Unquote.j0 (k + 1) s [] false = selvageref02_Unquote.l1 k s [] 1 := by simp [selvageref02_Unquote.j0]
  unfold selvageref02_Unquote.f unq
  by_cases h0 : s.toList = ([] : List UInt8)
  · rw [if_pos h0, jt]
    have : s.size = 0 := (toList_nil s).mp h0
    have e : ¬ (decide (1 ≤ s.size) && (bt s 0 == 34)) = true := by simp [this]
    rw [if_neg e]
    exact ref_plain s (by omega) (s.size + 1) k 0 (by omega) (by omega) (by omega)
  · have h1 : 1 ≤ s.size := by
      have : ¬ s.size = 0 := fun e => h0 ((toList_nil s).mpr e)
      omega
    rw [if_neg h0, if_pos (by omega)]
    by_cases hq : bt s 0 = 34
    · have e : (decide (1 ≤ s.size) && (bt s 0 == 34)) = true := by simp [h1, hq]
      have e2 : (bt s 0 != 34) = false := by simp [hq]
      rw [e2, jf, if_pos e]
      exact ref_loop s (by omega) s.size k 1 [] (by omega) h1 (by simp) (by omega)
    · have e : ¬ (decide (1 ≤ s.size) && (bt s 0 == 34)) = true := by simp [hq]
      have e2 : (bt s 0 != 34) = true := by simp [hq]
      rw [e2, jt, if_neg e]
      exact ref_plain s (by omega) (s.size + 1) k 0 (by omega) (by omega) (by omega)
theorem bytes_get (s : ByteArray) (i : Nat) (h : i < s.size) : (bytesOf s)[i]? = some (bt s (i : Int)) := by
  unfold bytesOf
  rw [List.getElem?_map, bt_list, List.getD_eq_getElem?_getD, List.getElem?_eq_getElem (by rw [data_length]; exact h)]
  rfl
theorem bytes_take (s : ByteArray) (i : Nat) (h : i < s.size) : (bytesOf s).take i ++ [bt s (i : Int)] = (bytesOf s).take (i + 1) := by
  rw [List.take_add_one, bytes_get s i h]; rfl
def escOk (n : Int) : Bool :=
  match esc n with
  | [l0, l1] => l0 == 92 && meantV l1 == (n, true)
  | [l0, a, b, c] => l0 == 92 && !(meantV a).2 && octD a && decide (a ≤ 51) && octD b && octD c && (octV a b c % 256 == n)
  | [x] => x == n && x != 34 && x != 10 && x != 92
  | _ => false
theorem escOk_all : ∀ n : Fin 256, escOk (n.val : Int) = true := by decide +kernel
theorem escOk_at (c : Int) (h0 : 0 ≤ c) (h1 : c ≤ 255) : escOk c = true := by
  have h := escOk_all ⟨c.toNat, by omega⟩
  have e : ((c.toNat : Nat) : Int) = c := by omega
  simp only [e] at h
  exact h
theorem escShown_all : ∀ n : Fin 256, ∀ x ∈ esc (n.val : Int), 32 ≤ x ∧ x ≤ 126 := by decide +kernel
theorem escShown_at (c : Int) (h0 : 0 ≤ c) (h1 : c ≤ 255) : ∀ x ∈ esc c, 32 ≤ x ∧ x ≤ 126 := by
  have h := escShown_all ⟨c.toNat, by omega⟩
  have e : ((c.toNat : Nat) : Int) = c := by omega
  simp only [e] at h
  exact h
theorem uq_esc (s : ByteArray) (d i : Nat) (acc : List Int) (c : Int) (h0 : 0 ≤ c) (h1 : c ≤ 255)
    (hl : i + (esc c).length ≤ s.size) (hb : ∀ m, m < (esc c).length → bt s ((i + m : Nat) : Int) = (esc c).getD m 0) :
    uq s (d + 1) i acc = uq s d (i + (esc c).length) (acc ++ [c]) := by
  have key := escOk_at c h0 h1
  unfold escOk at key
  simp only [uq]
  split at key
  · rename_i l0 l1 he
    rw [he] at hl hb
    simp only [Bool.and_eq_true, beq_iff_eq] at key
    obtain ⟨k0, k1⟩ := key
    subst k0
    have b0 : bt s (i : Int) = 92 := hb 0 (by simp)
    have b1 : bt s ((i + 1 : Nat) : Int) = l1 := hb 1 (by simp)
    have hl2 : i + 2 ≤ s.size := hl
    rw [b0, if_pos (by omega), if_neg (by decide), if_neg (by decide), if_pos rfl, if_pos hl2, if_pos (by rw [b1, k1]), b1, k1, he]
    rfl
  · rename_i l0 a b c' he
    rw [he] at hl hb
    simp only [Bool.and_eq_true, beq_iff_eq, Bool.not_eq_true', decide_eq_true_eq] at key
    obtain ⟨⟨⟨⟨⟨⟨k0, k1⟩, k2⟩, k3⟩, k4⟩, k5⟩, k6⟩ := key
    subst k0
    have b0 : bt s (i : Int) = 92 := hb 0 (by simp)
    have b1 : bt s ((i + 1 : Nat) : Int) = a := hb 1 (by simp)
    have b2 : bt s ((i + 2 : Nat) : Int) = b := hb 2 (by simp)
    have b3 : bt s ((i + 3 : Nat) : Int) = c' := hb 3 (by simp)
    have hl4 : i + 4 ≤ s.size := hl
    have ho : octAt s i := by
      unfold octAt
      rw [b1, b2, b3]
      exact ⟨hl4, k2, k3, k4, k5⟩
    have hv : octOf s i = c := by
      unfold octOf
      rw [b1, b2, b3]
      exact k6
    rw [b0, if_pos (by omega), if_neg (by decide), if_neg (by decide), if_pos rfl, if_pos (by omega), if_neg (by rw [b1, k1]; decide), if_pos ho, hv, he]
    rfl
  · rename_i x he
    rw [he] at hl hb
    simp only [Bool.and_eq_true, beq_iff_eq, bne_iff_ne] at key
    obtain ⟨⟨⟨k0, k1⟩, k2⟩, k3⟩ := key
    subst k0
    have b0 : bt s (i : Int) = x := hb 0 (by simp)
    have hl1 : i + 1 ≤ s.size := hl
    rw [b0, if_pos (by omega), if_neg k1, if_neg k2, if_neg k3, he]
    rfl
  · cases key
theorem quoted_split (a : ByteArray) (j n : Nat) (h : j ≤ n) : ∃ T, quotedFrom a n = quotedFrom a j ++ T := by
  induction n with
  | zero => exact ⟨[], by obtain rfl : j = 0 := (by omega); simp⟩
  | succ n ih =>
    by_cases e : j = n + 1
    · exact ⟨[], by rw [e]; simp⟩
    · obtain ⟨T, hT⟩ := ih (by omega)
      exact ⟨T ++ esc (bt a n), by simp only [quotedFrom, hT, List.append_assoc]⟩
theorem quoted_size (a : ByteArray) : (quoted a).size = (quotedFrom a a.size).length + 1 := by
  unfold quoted
  rw [strOfNums_size, List.length_append]; rfl
theorem esc_pos (c : Int) (h0 : 0 ≤ c) (h1 : c ≤ 255) : 1 ≤ (esc c).length := by
  have key := escOk_at c h0 h1
  unfold escOk at key
  split at key
  · rename_i he; rw [he]; simp
  · rename_i he; rw [he]; simp
  · rename_i he; rw [he]; simp
  · cases key
theorem quoted_long (a : ByteArray) (n : Nat) : n + 1 ≤ (quotedFrom a n).length := by
  induction n with
  | zero => simp [quotedFrom]
  | succ n ih =>
    have r := bt_range a n
    have := esc_pos (bt a n) r.1 r.2
    simp only [quotedFrom, List.length_append]
    omega
theorem quoted_head (a : ByteArray) : bt (quoted a) 0 = 34 := by
  obtain ⟨T, hT⟩ := quoted_split a 0 a.size (by omega)
  have := bt_nums (quotedFrom a a.size ++ [34]) 0 (by simp) (quoted_bytes a a.size)
  unfold quoted
  rw [show ((0 : Nat) : Int) = 0 from rfl] at this
  rw [this, hT]
  rfl
theorem quoted_at (a r : ByteArray) (i : Nat) (h : i < (quoted a).size) : bt (quoted a ++ r) (i : Int) = (quotedFrom a a.size ++ [34]).getD i 0 := by
  rw [bt_append_left _ _ _ h]
  rw [quoted_size] at h
  exact bt_nums _ i (by rw [List.length_append]; exact h) (quoted_bytes a a.size)
theorem back_loop (a r : ByteArray) (m : Nat) : ∀ (d j : Nat), j + m = a.size → m < d →
    uq (quoted a ++ r) d (quotedFrom a j).length ((bytesOf a).take j) = some (bytesOf a, (quoted a).size) := by
  induction m with
  | zero =>
    intro d j hj hd
    obtain ⟨d, rfl⟩ : ∃ x, d = x + 1 := ⟨d - 1, by omega⟩
    obtain rfl : j = a.size := by omega
    have hs := quoted_size a
    have hb : bt (quoted a ++ r) ((quotedFrom a a.size).length : Int) = 34 := by
      rw [quoted_at a r _ (by omega), List.getD_eq_getElem?_getD, List.getElem?_append_right (Nat.le_refl _)]
      simp
    simp only [uq]
    rw [if_pos (by rw [ByteArray.size_append]; omega), if_pos hb, List.take_of_length_le (by rw [bytesOf_length]; omega), hs]
  | succ m ih =>
    intro d j hj hd
    obtain ⟨d, rfl⟩ : ∃ x, d = x + 1 := ⟨d - 1, by omega⟩
    have rg := bt_range a j
    obtain ⟨T, hT⟩ := quoted_split a (j + 1) a.size (by omega)
    have hq : quotedFrom a (j + 1) = quotedFrom a j ++ esc (bt a j) := rfl
    have hs := quoted_size a
    have hlen : (quotedFrom a a.size).length = (quotedFrom a j).length + (esc (bt a j)).length + T.length := by
      rw [hT, hq]; simp only [List.length_append]
    rw [uq_esc _ d _ _ (bt a j) rg.1 rg.2 (by rw [ByteArray.size_append]; omega) ?_]
    · rw [bytes_take a j (by omega)]
      have := ih d (j + 1) (by omega) (by omega)
      rw [hq, List.length_append] at this
      exact this
    · intro x hx
      rw [quoted_at a r _ (by omega), hT, hq]
      simp only [List.getD_eq_getElem?_getD, List.append_assoc]
      rw [List.getElem?_append_right (by omega), Nat.add_sub_cancel_left, List.getElem?_append_left hx]
theorem unq_quoted (a r : ByteArray) : unq (quoted a ++ r) = (a, r, none) := by
  have hs := quoted_size a
  have hl := quoted_long a a.size
  have h0 : bt (quoted a ++ r) 0 = 34 := by
    have := bt_append_left (quoted a) r 0 (by omega)
    rw [show ((0 : Nat) : Int) = 0 from rfl] at this
    rw [this, quoted_head]
  unfold unq
  have hsz : (quoted a ++ r).size = (quoted a).size + r.size := ByteArray.size_append
  rw [if_pos (by simp [h0, hsz]; omega)]
  have key := back_loop a r a.size (quoted a ++ r).size 0 (by omega) (by omega)
  have e1 : (quotedFrom a 0).length = 1 := rfl
  have e2 : (bytesOf a).take 0 = [] := rfl
  rw [e1, e2] at key
  rw [key]
  unfold uqOut
  simp only
  rw [nums_bytes, ext_right]
theorem ndf_all (a : ByteArray) (d : Nat) : ndf a d = false → d ≤ a.size → ∀ i : Nat, a.size - d ≤ i → i < a.size → bad (bt a (i : Int)) = false := by
  induction d with
  | zero => intro _ _ i h1 h2; omega
  | succ d ih =>
    intro h hd i h1 h2
    simp only [ndf, Bool.or_eq_false_iff] at h
    by_cases e : i = a.size - (d + 1)
    · have : ((i : Nat) : Int) = (a.size : Int) - (d + 1) := by omega
      rw [this]; exact h.1
    · exact ih h.2 (by omega) i (by omega) h2
theorem plain_byte (a : ByteArray) (h : ¬ needs a = true) (i : Nat) (hi : i < a.size) : 33 ≤ bt a (i : Int) ∧ bt a (i : Int) ≤ 126 ∧ bt a (i : Int) ≠ 34 := by
  have h1 : ndf a a.size = false := by
    unfold needs at h
    simp only [Bool.or_eq_true, not_or, Bool.not_eq_true] at h
    exact h.1
  have := ndf_all a a.size h1 (Nat.le_refl _) i (by omega) hi
  unfold bad at this
  simp only [Bool.or_eq_false_iff, decide_eq_false_iff_not, beq_eq_false_iff_ne] at this
  omega
theorem plain_size (a : ByteArray) (h : ¬ needs a = true) : 1 ≤ a.size := by
  unfold needs at h
  simp only [Bool.or_eq_true, not_or, beq_iff_eq] at h
  have : ¬ a.size = 0 := fun e => h.2 ((toList_nil a).mpr e)
  omega
theorem ua_plain (a r : ByteArray) (h : ¬ needs a = true) (hr : r.size = 0 ∨ bt r 0 = 9 ∨ bt r 0 = 10) (d : Nat) : ∀ i : Nat, i ≤ a.size → (a ++ r).size < i + d → ua (a ++ r) d i = a.size := by
  have hsz : (a ++ r).size = a.size + r.size := ByteArray.size_append
  induction d with
  | zero => intro i hi hd; omega
  | succ d ih =>
    intro i hi hd
    simp only [ua]
    by_cases e : i = a.size
    · subst e
      by_cases hr0 : r.size = 0
      · rw [if_neg (by omega)]
      · have hb : bt (a ++ r) ((a.size : Nat) : Int) = bt r 0 := bt_append_right a r 0
        rw [if_pos (by omega), hb]
        by_cases c9 : bt r 0 = 9
        · rw [if_pos c9]
        · rw [if_neg c9, if_pos (by omega)]
    · have hb := bt_append_left a r i (by omega)
      have hp := plain_byte a h i (by omega)
      rw [if_pos (by omega), hb, if_neg (by omega), if_neg (by omega)]
      exact ih (i + 1) (by omega) (by omega)
theorem unq_plain (a r : ByteArray) (h : ¬ needs a = true) (hr : r.size = 0 ∨ bt r 0 = 9 ∨ bt r 0 = 10) : unq (a ++ r) = (a, r, none) := by
  have h1 := plain_size a h
  have hsz : (a ++ r).size = a.size + r.size := ByteArray.size_append
  have h0 : bt (a ++ r) 0 = bt a 0 := bt_append_left a r 0 (by omega)
  have hp : bt a 0 ≠ 34 := (plain_byte a h 0 (by omega)).2.2
  unfold unq
  rw [if_neg (by simp [h0, hp]), ua_plain a r h hr _ 0 (by omega) (by omega), ext_left, ext_right]
theorem unq_shown (a : ByteArray) : unq (shown a) = (a, ⟨#[]⟩, none) := by
  unfold shown
  by_cases h : needs a = true
  · rw [if_pos h]
    have := unq_quoted a ⟨#[]⟩
    rw [app_nil] at this
    exact this
  · rw [if_neg h]
    have := unq_plain a ⟨#[]⟩ h (Or.inl rfl)
    rw [app_nil] at this
    exact this
theorem shown_size (a : ByteArray) : (shown a).size ≤ 4 * a.size + 2 := by
  unfold shown
  split
  · have := quotedFrom_length a a.size
    rw [quoted_size]; omega
  · omega
theorem quoted_shown (a : ByteArray) (n : Nat) : ∀ x ∈ quotedFrom a n ++ [34], 32 ≤ x ∧ x ≤ 126 := by
  induction n with
  | zero => intro x hx; simp [quotedFrom] at hx; omega
  | succ n ih =>
    intro x hx
    simp only [quotedFrom, List.mem_append, List.mem_singleton] at hx
    have hr := bt_range a n
    rcases hx with (hx | hx) | hx
    · exact ih x (by simp [hx])
    · exact escShown_at _ hr.1 hr.2 x hx
    · omega
theorem shown_byte (a : ByteArray) (i : Nat) (h : i < (shown a).size) : 32 ≤ bt (shown a) (i : Int) ∧ bt (shown a) (i : Int) ≤ 126 := by
  unfold shown at h ⊢
  by_cases c : needs a = true
  · rw [if_pos c] at h ⊢
    have hb := quoted_at a ⟨#[]⟩ i h
    rw [app_nil] at hb
    rw [hb]
    rw [quoted_size] at h
    have hm : i < (quotedFrom a a.size ++ [34]).length := by rw [List.length_append]; exact h
    rw [List.getD_eq_getElem?_getD, List.getElem?_eq_getElem hm]
    exact quoted_shown a a.size _ (List.getElem_mem hm)
  · rw [if_neg c] at h ⊢
    have := plain_byte a c i h
    omega
theorem uq_bounds (s : ByteArray) (d : Nat) : ∀ (i : Nat) (acc l : List Int) (j : Nat), i ≤ s.size → acc.length ≤ i → uq s d i acc = some (l, j) → j ≤ s.size ∧ l.length ≤ j := by
  induction d with
  | zero => intro i acc l j _ _ h; simp [uq] at h
  | succ d ih =>
    intro i acc l j hi ha h
    simp only [uq] at h
    by_cases c : i < s.size
    · rw [if_pos c] at h
      by_cases c34 : bt s (i : Int) = 34
      · rw [if_pos c34] at h
        simp only [Option.some.injEq, Prod.mk.injEq] at h
        obtain ⟨rfl, rfl⟩ := h
        omega
      · rw [if_neg c34] at h
        by_cases c10 : bt s (i : Int) = 10
        · rw [if_pos c10] at h; cases h
        · rw [if_neg c10] at h
          by_cases c92 : bt s (i : Int) = 92
          · rw [if_pos c92] at h
            by_cases h2 : i + 2 ≤ s.size
            · rw [if_pos h2] at h
              by_cases m : (meantV (bt s ((i + 1 : Nat) : Int))).2 = true
              · rw [if_pos m] at h
                exact ih (i + 2) _ l j h2 (by simp; omega) h
              · rw [if_neg m] at h
                by_cases o : octAt s i
                · rw [if_pos o] at h
                  exact ih (i + 4) _ l j o.1 (by simp; omega) h
                · rw [if_neg o] at h; cases h
            · rw [if_neg h2] at h; cases h
          · rw [if_neg c92] at h
            exact ih (i + 1) _ l j (by omega) (by simp; omega) h
    · rw [if_neg c] at h; cases h
theorem unq_facts (s : ByteArray) : (∃ j, j ≤ s.size ∧ (unq s).1.size ≤ j ∧ (unq s).2.1 = s.extract j s.size ∧ (unq s).2.2 = none) ∨ unq s = (⟨#[]⟩, ⟨#[]⟩, some 20) := by
  unfold unq
  by_cases hq : (decide (1 ≤ s.size) && (bt s 0 == 34)) = true
  · rw [if_pos hq]
    have h1 : 1 ≤ s.size := by simp at hq; exact hq.1
    cases hu : uq s s.size 1 [] with
    | none => exact Or.inr rfl
    | some x =>
      obtain ⟨l, j⟩ := x
      have := uq_bounds s s.size 1 [] l j h1 (by simp) hu
      exact Or.inl ⟨j, this.1, by simp only [uqOut]; rw [strOfNums_size]; exact this.2, rfl, rfl⟩
  · rw [if_neg hq]
    have hb := ua_le s (s.size + 1) 0 (by omega)
    exact Or.inl ⟨ua s (s.size + 1) 0, hb.2, by simp only; rw [ByteArray.size_extract]; omega, rfl, rfl⟩
end Go.Proofs.YtfempodohmhhlaaDoor.Pure
