/-
  quote, in plain Lean: what is quoted is read as it was, whatever stands behind it (QuoteBack).
-/
import Derived.Test.YtljdeadakamhpaaDoorPureD
namespace Go.Proofs.YtljdeadakamhpaaDoor.Pure
open Go.RowKit Go.Proofs.YtljdeadakamhpaaDoor.Pp Go.Proofs.YtljdeadakamhpaaDoor.Ext Go.Proofs.YtljdeadakamhpaaDoor.P1 Go.Proofs.YtljdeadakamhpaaDoorW.PrintWords Go.Proofs.YtljdeadakamhpaaDoorW.PrintLast
theorem shown_pos (a : ByteArray) : 1 ≤ (shown a).size := by
  unfold shown
  split
  · rw [quoted_size]; omega
  · rename_i h; exact plain_size a h
theorem back_j1 (a x : ByteArray) (hn : (shown a).size + x.size + 1 ≤ 4000000000) {k : Nat} (hk : (shown a).size + x.size + 61 ≤ k) : selvagelaw02_QuoteBack.j1 (k + 2) a x (shown a) (bt (shown a) 0 == 34) = some true := by
  have hsz : ∀ y : ByteArray, (shown a ++ y).size = (shown a).size + y.size := fun y => ByteArray.size_append
  have e1 : ∀ (b : Bool), selvagelaw02_QuoteBack.j1 (k + 2) a x (shown a) b = if b = true then selvagelaw02_QuoteBack.j2 (k + 1) a x (shown a) false else if x.toList = ([] : List UInt8) then selvagelaw02_QuoteBack.j2 (k + 1) a x (shown a) false else if 0 < (x.size : Int) then (if bt x 0 = 9 then selvagelaw02_QuoteBack.j2 (k + 1) a x (shown a) false else selvagelaw02_QuoteBack.j2 (k + 1) a x (shown a) (bt x 0 != 10)) else none := by
    intro b
    simp only [selvagelaw02_QuoteBack.j1]
  rw [e1]
  by_cases h : needs a = true
  · have hsh : shown a = quoted a := by unfold shown; rw [if_pos h]
    have h34 : (bt (shown a) 0 == 34) = true := by rw [hsh, quoted_head]; rfl
    rw [if_pos h34]
    exact back_j2 a (shown a) x (by rw [hsz]; omega) (by rw [hsh]; exact unq_quoted a x) (by rw [hsz]; omega)
  · have hsh : shown a = a := by unfold shown; rw [if_neg h]
    have hp : bt a 0 ≠ 34 := (plain_byte a h 0 (plain_size a h)).2.2
    have h34 : ¬ (bt (shown a) 0 == 34) = true := by rw [hsh, beq_iff_eq]; exact hp
    have ok : (x.size = 0 ∨ bt x 0 = 9 ∨ bt x 0 = 10) → selvagelaw02_QuoteBack.j2 (k + 1) a x (shown a) false = some true := fun hr =>
      back_j2 a (shown a) x (by rw [hsz]; omega) (by rw [hsh]; exact unq_plain a x h hr) (by rw [hsz]; omega)
    rw [if_neg h34]
    by_cases e : x.toList = ([] : List UInt8)
    · rw [if_pos e]
      exact ok (Or.inl ((toList_nil x).mp e))
    · have hne : ¬ x.size = 0 := fun z => e ((toList_nil x).mpr z)
      rw [if_neg e, if_pos (by omega)]
      by_cases c9 : bt x 0 = 9
      · rw [if_pos c9]
        exact ok (Or.inr (Or.inl c9))
      · rw [if_neg c9]
        by_cases c10 : bt x 0 = 10
        · have : (bt x 0 != 10) = false := by rw [c10]; rfl
          rw [this]
          exact ok (Or.inr (Or.inr c10))
        · have : (bt x 0 != 10) = true := bne_iff_ne.mpr c10
          rw [this]
          have hsy : ((⟨#[9]⟩ : ByteArray) ++ x).size = 1 + x.size := ByteArray.size_append
          have hb9 : bt ((⟨#[9]⟩ : ByteArray) ++ x) 0 = 9 := by
            have := bt_append_left (⟨#[9]⟩ : ByteArray) x 0 (by decide)
            rw [show ((0 : Nat) : Int) = 0 from rfl] at this
            rw [this]; rfl
          exact back_j2t a (shown a) x (by rw [hsz]; omega) (by rw [hsh]; exact unq_plain a _ h (Or.inr (Or.inl hb9))) (by rw [hsz]; omega)
theorem QuoteBack : ∀ (a0 a1 : ByteArray), (a0.size + 1) + (a1.size + 1) ≤ 1048576 → ∃ k, selvagelaw02_QuoteBack.f k a0 a1 = some true := by
  intro a0 a1 hn
  have hs := shown_size a0
  have hs1 := shown_pos a0
  obtain ⟨K, hK⟩ : ∃ K, a0.size + (shown a0).size + a1.size + 70 = K := ⟨_, rfl⟩
  refine ⟨(K + 2) + (shown a0).size + 1, ?_⟩
  unfold selvagelaw02_QuoteBack.f
  rw [quote_at a0 (by omega) (by omega), Option.bind_some]
  have hw : wrap64 (wrap64 (4 * (a0.size : Int)) + 2) = 4 * (a0.size : Int) + 2 := by
    rw [w64' (i := 4 * (a0.size : Int)) (by omega) (by omega), w64' (by omega) (by omega)]
  rw [hw, if_neg (by omega)]
  have hl := back_l0 a0 a1 (shown a0) (by omega) (shown_byte a0) hs1 (shown a0).size (K + 2) 0 (by omega)
  rw [show ((0 : Nat) : Int) = 0 from rfl] at hl
  rw [hl]
  exact back_j1 a0 a1 (by omega) (by omega)
end Go.Proofs.YtljdeadakamhpaaDoor.Pure
