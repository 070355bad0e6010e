/-
  quote, in plain Lean: Unquote of the program and of the reference, step by step; they agree on every text.
-/
import Derived.Test.YtljdeadakamhpaaDoorPureA
import Derived.Test.YtljdeadakamhpaaDoorPp4
namespace Go.Proofs.YtljdeadakamhpaaDoor.Pure
open Go.RowKit Go.Proofs.YtljdeadakamhpaaDoor.Pp Go.Proofs.YtljdeadakamhpaaDoor.Ext Go.Proofs.YtljdeadakamhpaaDoor.P1 Go.Proofs.YtljdeadakamhpaaDoorW.PrintWords Go.Proofs.YtljdeadakamhpaaDoorW.PrintLast

/-! ### bytes of cut texts -/
theorem bt_list (s : ByteArray) (i : Nat) : bt s i = ((s.data.toList.getD i 0).toNat : Int) := by
  unfold bt
  simp only [Int.toNat_natCast]
  split
  · rename_i h
    rw [List.getD_eq_getElem?_getD, Lib.data_getElem? s i h]
    rfl
  · rename_i h
    rw [List.getD_eq_getElem?_getD, List.getElem?_eq_none (by rw [data_length]; omega)]
    rfl
theorem bt_extract (s : ByteArray) (a b j : Nat) (h : a + j < b) : bt (s.extract a b) j = bt s ((a + j : Nat) : Int) := by
  rw [bt_list, bt_list, Lib.extract_data, List.getD_eq_getElem?_getD, List.getD_eq_getElem?_getD, List.getElem?_take, if_pos (by omega), List.getElem?_drop]
theorem size_cut (s : ByteArray) (a : Nat) : (s.extract a s.size).size = s.size - a := by
  rw [ByteArray.size_extract, Nat.min_self]
theorem bt_append_left (s t : ByteArray) (j : Nat) (h : j < s.size) : bt (s ++ t) j = bt s j := by
  rw [bt_list, bt_list, ByteArray.data_append, Array.toList_append, List.getD_eq_getElem?_getD, List.getElem?_append_left (by rw [data_length]; exact h), ← List.getD_eq_getElem?_getD]
theorem bt_append_right (s t : ByteArray) (j : Nat) : bt (s ++ t) ((s.size + j : Nat) : Int) = bt t j := by
  rw [bt_list, bt_list, ByteArray.data_append, Array.toList_append, List.getD_eq_getElem?_getD, List.getElem?_append_right (by rw [data_length]; omega), data_length, Nat.add_sub_cancel_left, ← List.getD_eq_getElem?_getD]

/-! ### octal digits -/
def octD (c : Int) : Bool := decide (48 ≤ c) && decide (c ≤ 55)
def octV (a b c : Int) : Int := (a - 48) * 64 + (b - 48) * 8 + (c - 48)
theorem octal_at (s : ByteArray) {k : Nat} (hk : 6 ≤ k) :
    quote_octal.f k s = some (if s.size ≥ 3 ∧ octD (bt s 0) = true ∧ bt s 0 ≤ 51 ∧ octD (bt s 1) = true ∧ octD (bt s 2) = true then (octV (bt s 0) (bt s 1) (bt s 2) % 256, true) else (0, false)) := by
  refine at_rounds (quote_octal.mono s) hk ?_
  have r0 := bt_range s 0
  have r1 := bt_range s 1
  have r2 := bt_range s 2
  have w1 : wrap64 (0 + 1) = 1 := by decide +kernel
  have w2 : wrap64 (1 + 1) = 2 := by decide +kernel
  have w3 : wrap64 (2 + 1) = 3 := by decide +kernel
  have w0 : wrap64 (0 * 8) = 0 := by decide +kernel
  unfold quote_octal.f
  by_cases h3 : s.size < 3
  · rw [if_pos (by omega), if_neg (by omega)]
    simp [quote_octal.j0]
  · rw [if_neg (by omega), if_pos (by omega)]
    simp only [quote_octal.j0, quote_octal.l0, w0, w1, w2, w3]
    have z0 : (0 : Int) < (s.size : Int) := by omega
    have z1 : (1 : Int) < (s.size : Int) := by omega
    have z2 : (2 : Int) < (s.size : Int) := by omega
    simp only [z0, z1, z2, if_true]
    generalize bt s 0 = a at *
    generalize bt s 1 = b at *
    generalize bt s 2 = c at *
    by_cases ha : a > 51
    · have : ¬ a ≤ 51 := by omega
      simp [ha, this, octD]
    · by_cases ha2 : a < 48
      · have : ¬ 48 ≤ a := by omega
        simp [ha, ha2, this, octD]
      · have ha3 : ¬ a > 55 := by omega
        by_cases hb1 : b < 48
        · have : ¬ 48 ≤ b := by omega
          simp [ha, ha2, ha3, hb1, this, octD]
        · by_cases hb2 : b > 55
          · have : ¬ b ≤ 55 := by omega
            simp [ha, ha2, ha3, hb1, hb2, this, octD]
          · by_cases hc1 : c < 48
            · have : ¬ 48 ≤ c := by omega
              simp [ha, ha2, ha3, hb1, hb2, hc1, this, octD]
            · by_cases hc2 : c > 55
              · have : ¬ c ≤ 55 := by omega
                simp [ha, ha2, ha3, hb1, hb2, hc1, hc2, this, octD]
              · have e : s.size ≥ 3 ∧ octD a = true ∧ a ≤ 51 ∧ octD b = true ∧ octD c = true := by
                  simp only [octD, Bool.and_eq_true, decide_eq_true_eq]
                  omega
                rw [if_pos e]
                rw [if_neg (by simp [ha]), if_pos (by omega), if_pos (by omega), if_neg ha2, if_neg ha3, if_pos (by omega), if_pos (by omega), if_neg hb1, if_neg hb2, if_pos (by omega), if_pos (by omega), if_neg hc1, if_neg hc2, if_neg (by omega)]
                have q : ∀ x : Int, 48 ≤ x → x ≤ 55 → (x - 48) % 256 = x - 48 := fun x _ _ => by omega
                rw [q a (by omega) (by omega), q b (by omega) (by omega), q c (by omega) (by omega)]
                unfold octV wrap64
                congr 2
                omega
theorem refoctal (c : Int) (h0 : 0 ≤ c) (h1 : c ≤ 255) : selvageref02_octal.f c = some (if octD c = true then c - 48 else -1) := by
  unfold selvageref02_octal.f octD
  by_cases a : c ≥ 48
  · by_cases b : c ≤ 55
    · rw [if_pos a, if_pos b, w64' (i := c) (by omega) (by omega), w64' (by omega) (by omega)]; simp [a, b]
    · rw [if_pos a, if_neg b]; simp [b]
  · have : ¬ 48 ≤ c := a
    rw [if_neg a]; simp [this]

/-! ### letters -/
theorem meant_all : ∀ n : Fin 256, (quote_meant.f 12 (n.val : Int)).isSome = true := by decide +kernel
def meantV (c : Int) : Int × Bool := (quote_meant.f 12 c).getD (0, false)
theorem meant_at (c : Int) (h0 : 0 ≤ c) (h1 : c ≤ 255) {k : Nat} (hk : 12 ≤ k) : quote_meant.f k c = some (meantV c) := by
  have h := meant_all ⟨c.toNat, by omega⟩
  have e : ((c.toNat : Nat) : Int) = c := by omega
  simp only [e] at h
  obtain ⟨x, hx⟩ := Option.isSome_iff_exists.mp h
  unfold meantV
  rw [at_rounds (quote_meant.mono c) hk hx, hx]
  rfl

/-! ### what an escape means: the reference's 'read' -/
def escV (b0 b1 b2 : Int) (big : Bool) : Int × Int :=
  if (meantV b0).2 = true then ((meantV b0).1, 2)
  else if big = true ∧ octD b0 = true ∧ b0 ≤ 51 ∧ octD b1 = true ∧ octD b2 = true then (octV b0 b1 b2 % 256, 4) else (0, 0)
theorem letters_all : ∀ n : Fin 256, ((n.val : Int) = 97 ∧ meantV n.val = (7, true)) ∨ ((n.val : Int) = 98 ∧ meantV n.val = (8, true)) ∨ ((n.val : Int) = 116 ∧ meantV n.val = (9, true)) ∨ ((n.val : Int) = 110 ∧ meantV n.val = (10, true)) ∨ ((n.val : Int) = 118 ∧ meantV n.val = (11, true)) ∨ ((n.val : Int) = 102 ∧ meantV n.val = (12, true)) ∨ ((n.val : Int) = 114 ∧ meantV n.val = (13, true)) ∨ ((n.val : Int) = 34 ∧ meantV n.val = (34, true)) ∨ ((n.val : Int) = 92 ∧ meantV n.val = (92, true)) ∨ (((n.val : Int) ≠ 97 ∧ (n.val : Int) ≠ 98 ∧ (n.val : Int) ≠ 116 ∧ (n.val : Int) ≠ 110 ∧ (n.val : Int) ≠ 118 ∧ (n.val : Int) ≠ 102 ∧ (n.val : Int) ≠ 114 ∧ (n.val : Int) ≠ 34 ∧ (n.val : Int) ≠ 92) ∧ meantV n.val = (0, false)) := by decide +kernel

theorem letters_at (c : Int) (h0 : 0 ≤ c) (h1 : c ≤ 255) : (c = 97 ∧ meantV c = (7, true)) ∨ (c = 98 ∧ meantV c = (8, true)) ∨ (c = 116 ∧ meantV c = (9, true)) ∨ (c = 110 ∧ meantV c = (10, true)) ∨ (c = 118 ∧ meantV c = (11, true)) ∨ (c = 102 ∧ meantV c = (12, true)) ∨ (c = 114 ∧ meantV c = (13, true)) ∨ (c = 34 ∧ meantV c = (34, true)) ∨ (c = 92 ∧ meantV c = (92, true)) ∨ ((c ≠ 97 ∧ c ≠ 98 ∧ c ≠ 116 ∧ c ≠ 110 ∧ c ≠ 118 ∧ c ≠ 102 ∧ c ≠ 114 ∧ c ≠ 34 ∧ c ≠ 92) ∧ meantV c = (0, false)) := by
  have h := letters_all ⟨c.toNat, by omega⟩
  have e : ((c.toNat : Nat) : Int) = c := by omega
  simp only [e] at h
  exact h
theorem read_tail (t : ByteArray) (h2 : ¬ t.size < 2) {k : Nat} : (if (t.size : Int) < 4 then (selvageref02_read.j2 (k + 1) t true) else (if 1 < (t.size : Int) then ((selvageref02_octal.f (bt t 1)).bind fun t152 => (if t152 < 0 then (selvageref02_read.j2 (k + 1) t true) else (if t152 > 3 then (selvageref02_read.j2 (k + 1) t true) else (if 2 < (t.size : Int) then ((selvageref02_octal.f (bt t 2)).bind fun t153 => (if t153 < 0 then (selvageref02_read.j2 (k + 1) t true) else (if 3 < (t.size : Int) then ((selvageref02_octal.f (bt t 3)).bind fun t154 => (selvageref02_read.j2 (k + 1) t (decide (t154 < 0)))) else (none)))) else (none))))) else (none)))
    = some (if t.size ≥ 4 ∧ octD (bt t 1) = true ∧ bt t 1 ≤ 51 ∧ octD (bt t 2) = true ∧ octD (bt t 3) = true then (octV (bt t 1) (bt t 2) (bt t 3) % 256, 4) else (0, 0)) := by
  have r1 := bt_range t 1
  have r2 := bt_range t 2
  have r3 := bt_range t 3
  have jt : selvageref02_read.j2 (k + 1) t true = some (0, 0) := by simp [selvageref02_read.j2]
  by_cases h4 : t.size < 4
  · rw [if_pos (by omega), jt, if_neg (by omega)]
  · rw [if_neg (by omega), if_pos (by omega), refoctal _ r1.1 r1.2]
    simp only [Option.bind_some]
    by_cases o1 : octD (bt t 1) = true
    · have q1 : 48 ≤ bt t 1 ∧ bt t 1 ≤ 55 := by simpa [octD] using o1
      rw [if_pos o1, if_neg (by omega)]
      by_cases h51 : bt t 1 ≤ 51
      · rw [if_neg (by omega), if_pos (by omega), refoctal _ r2.1 r2.2]
        simp only [Option.bind_some]
        by_cases o2 : octD (bt t 2) = true
        · have q2 : 48 ≤ bt t 2 ∧ bt t 2 ≤ 55 := by simpa [octD] using o2
          rw [if_pos o2, if_neg (by omega), if_pos (by omega), refoctal _ r3.1 r3.2]
          simp only [Option.bind_some]
          by_cases o3 : octD (bt t 3) = true
          · have q3 : 48 ≤ bt t 3 ∧ bt t 3 ≤ 55 := by simpa [octD] using o3
            rw [if_pos o3, if_pos ⟨by omega, o1, h51, o2, o3⟩]
            have hd : decide (bt t 3 - 48 < 0) = false := decide_eq_false (by omega)
            rw [hd]
            simp only [selvageref02_read.j2]
            rw [if_neg (by simp), if_pos (by omega), refoctal _ r1.1 r1.2, if_pos o1]
            simp only [Option.bind_some]
            rw [if_pos (by omega), refoctal _ r2.1 r2.2, if_pos o2]
            simp only [Option.bind_some]
            rw [if_pos (by omega), refoctal _ r3.1 r3.2, if_pos o3]
            simp only [Option.bind_some]
            unfold octV wrap64
            congr 2
            omega
          · rw [if_neg o3, if_neg (fun h => o3 h.2.2.2.2)]
            simp [selvageref02_read.j2]
        · rw [if_neg o2, if_pos (by omega), jt, if_neg (fun h => o2 h.2.2.2.1)]
      · rw [if_pos (by omega), jt, if_neg (fun h => h51 h.2.2.1)]
    · rw [if_neg o1, if_pos (by omega), jt, if_neg (fun h => o1 h.2.1)]
theorem read_at (t : ByteArray) {k : Nat} (hk : 14 ≤ k) : selvageref02_read.f k t = some (if t.size ≥ 2 ∧ bt t 0 = 92 then escV (bt t 1) (bt t 2) (bt t 3) (decide (t.size ≥ 4)) else (0, 0)) := by
  refine at_rounds (selvageref02_read.mono t) hk ?_
  unfold selvageref02_read.f
  by_cases h2 : t.size < 2
  · rw [if_pos (by omega), if_neg (by omega)]
    simp [selvageref02_read.j0]
  · rw [if_neg (by omega), if_pos (by omega)]
    by_cases h92 : bt t 0 = 92
    · have e : (bt t 0 != 92) = false := by simp [h92]
      rw [e, if_pos ⟨by omega, h92⟩]
      simp only [selvageref02_read.j0]
      rw [if_neg (by simp)]
      have r1 := bt_range t 1
      have z1 : (1 : Int) < (t.size : Int) := by omega
      have w1 : wrap64 (0 + 1) = 1 := by decide +kernel
      have w2 : wrap64 (1 + 1) = 2 := by decide +kernel
      have w3 : wrap64 (2 + 1) = 3 := by decide +kernel
      have w4 : wrap64 (3 + 1) = 4 := by decide +kernel
      have w5 : wrap64 (4 + 1) = 5 := by decide +kernel
      have w6 : wrap64 (5 + 1) = 6 := by decide +kernel
      have w7 : wrap64 (6 + 1) = 7 := by decide +kernel
      have w8 : wrap64 (7 + 1) = 8 := by decide +kernel
      have w9 : wrap64 (8 + 1) = 9 := by decide +kernel
      obtain ⟨L, hL⟩ : ∃ L : ByteArray, (⟨#[97, 98, 116, 110, 118, 102, 114, 34, 92]⟩ : ByteArray) = L := ⟨_, rfl⟩
      obtain ⟨C, hC⟩ : ∃ C : ByteArray, (⟨#[7, 8, 9, 10, 11, 12, 13, 34, 92]⟩ : ByteArray) = C := ⟨_, rfl⟩
      have l0 : bt L 0 = 97 := by rw [← hL]; rfl
      have l1 : bt L 1 = 98 := by rw [← hL]; rfl
      have l2 : bt L 2 = 116 := by rw [← hL]; rfl
      have l3 : bt L 3 = 110 := by rw [← hL]; rfl
      have l4 : bt L 4 = 118 := by rw [← hL]; rfl
      have l5 : bt L 5 = 102 := by rw [← hL]; rfl
      have l6 : bt L 6 = 114 := by rw [← hL]; rfl
      have l7 : bt L 7 = 34 := by rw [← hL]; rfl
      have l8 : bt L 8 = 92 := by rw [← hL]; rfl
      have c0 : bt C 0 = 7 := by rw [← hC]; rfl
      have c1 : bt C 1 = 8 := by rw [← hC]; rfl
      have c2 : bt C 2 = 9 := by rw [← hC]; rfl
      have c3 : bt C 3 = 10 := by rw [← hC]; rfl
      have c4 : bt C 4 = 11 := by rw [← hC]; rfl
      have c5 : bt C 5 = 12 := by rw [← hC]; rfl
      have c6 : bt C 6 = 13 := by rw [← hC]; rfl
      have c7 : bt C 7 = 34 := by rw [← hC]; rfl
      have c8 : bt C 8 = 92 := by rw [← hC]; rfl
      have step : ∀ (k : Nat) (j : Int), 0 ≤ j → j < 9 → selvageref02_read.l0 (k + 1) t j = if bt L j = bt t 1 then some (bt C j, 2) else selvageref02_read.l0 k t (wrap64 (j + 1)) := by
        intro k j hj hj9
        simp only [selvageref02_read.l0, hL, hC]
        rw [if_pos hj9, if_pos hj, if_pos z1]
      have last : ∀ k : Nat, selvageref02_read.l0 (k + 2) t 9 = some (if t.size ≥ 4 ∧ octD (bt t 1) = true ∧ bt t 1 ≤ 51 ∧ octD (bt t 2) = true ∧ octD (bt t 3) = true then (octV (bt t 1) (bt t 2) (bt t 3) % 256, 4) else (0, 0)) := by
        intro k
        rw [← read_tail t h2 (k := k)]
        simp only [selvageref02_read.l0]
        rw [if_neg (by omega)]
      have hE : escV (bt t 1) (bt t 2) (bt t 3) (decide (t.size ≥ 4)) = if (meantV (bt t 1)).2 = true then ((meantV (bt t 1)).1, 2) else if t.size ≥ 4 ∧ octD (bt t 1) = true ∧ bt t 1 ≤ 51 ∧ octD (bt t 2) = true ∧ octD (bt t 3) = true then (octV (bt t 1) (bt t 2) (bt t 3) % 256, 4) else (0, 0) := by
        unfold escV
        simp only [decide_eq_true_eq]
      rw [hE]
      have hlet := letters_at (bt t 1) r1.1 r1.2
      rw [step 12 0 (by omega) (by omega), w1, step 11 1 (by omega) (by omega), w2, step 10 2 (by omega) (by omega), w3, step 9 3 (by omega) (by omega), w4, step 8 4 (by omega) (by omega), w5, step 7 5 (by omega) (by omega), w6, step 6 6 (by omega) (by omega), w7, step 5 7 (by omega) (by omega), w8, step 4 8 (by omega) (by omega), w9, last 2]
      rw [l0, l1, l2, l3, l4, l5, l6, l7, l8, c0, c1, c2, c3, c4, c5, c6, c7, c8]
      rcases hlet with ⟨hb, hm⟩ | ⟨hb, hm⟩ | ⟨hb, hm⟩ | ⟨hb, hm⟩ | ⟨hb, hm⟩ | ⟨hb, hm⟩ | ⟨hb, hm⟩ | ⟨hb, hm⟩ | ⟨hb, hm⟩ | ⟨⟨n1, n2, n3, n4, n5, n6, n7, n8, n9⟩, hm⟩
      · rw [hm, hb]; rfl
      · rw [hm, hb]; rfl
      · rw [hm, hb]; rfl
      · rw [hm, hb]; rfl
      · rw [hm, hb]; rfl
      · rw [hm, hb]; rfl
      · rw [hm, hb]; rfl
      · rw [hm, hb]; rfl
      · rw [hm, hb]; rfl
      · rw [hm, if_neg (fun h => n1 h.symm), if_neg (fun h => n2 h.symm), if_neg (fun h => n3 h.symm), if_neg (fun h => n4 h.symm), if_neg (fun h => n5 h.symm), if_neg (fun h => n6 h.symm), if_neg (fun h => n7 h.symm), if_neg (fun h => n8 h.symm), if_neg (fun h => n9 h.symm)]
        rfl
    · have e : (bt t 0 != 92) = true := by simp [h92]
      rw [e, if_neg (fun h => h92 h.2)]
      simp [selvageref02_read.j0]
end Go.Proofs.YtljdeadakamhpaaDoor.Pure
