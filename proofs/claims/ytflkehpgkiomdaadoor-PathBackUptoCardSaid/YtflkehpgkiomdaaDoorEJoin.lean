/-
  strings.Join: walked over this translation (the builder's contracts are XEBuilder's; the library's own, whose copyCheck is of another text, are not laid here).
-/
import Derived.Test.YtflkehpgkiomdaaDoorEBuilder
import Derived.Test.YtflkehpgkiomdaaDoorEShelf
import Derived.Test.YtflkehpgkiomdaaDoorWLast
namespace Go.Proofs.YtflkehpgkiomdaaDoor.Ext
open Go.RowKit Go.Proofs.YtflkehpgkiomdaaDoorW.PrintWords Go.Proofs.YtflkehpgkiomdaaDoorW.PrintLast
theorem empty_eq : (⟨#[]⟩ : ByteArray) = ByteArray.empty := rfl
def joinP (xs : List ByteArray) (sep : ByteArray) : Nat → ByteArray
  | 0 => ⟨#[]⟩
  | n + 1 => joinP xs sep n ++ (if n = 0 then ⟨#[]⟩ else sep) ++ xs.getD n ByteArray.empty
def sumP (xs : List ByteArray) : Nat → Nat
  | 0 => 0
  | n + 1 => sumP xs n + (xs.getD n ByteArray.empty).size
theorem joinP_size (xs : List ByteArray) (sep : ByteArray) (n : Nat) : (joinP xs sep (n + 1)).size = sumP xs (n + 1) + sep.size * n := by
  induction n with
  | zero => simp [joinP, sumP, empty_eq]
  | succ n ih =>
    have e : joinP xs sep (n + 1 + 1) = joinP xs sep (n + 1) ++ sep ++ xs.getD (n + 1) ByteArray.empty := rfl
    have e2 : sumP xs (n + 1 + 1) = sumP xs (n + 1) + (xs.getD (n + 1) ByteArray.empty).size := rfl
    rw [e, e2, ByteArray.size_append, ByteArray.size_append, ih, Nat.mul_succ]
    omega
theorem joinP_le (xs : List ByteArray) (sep : ByteArray) (n m : Nat) (h : n ≤ m) : (joinP xs sep n).size ≤ (joinP xs sep m).size := by
  induction m with
  | zero => obtain rfl : n = 0 := (by omega); exact Nat.le_refl _
  | succ m ih =>
    by_cases e : n = m + 1
    · rw [e]; exact Nat.le_refl _
    · have := ih (by omega)
      simp only [joinP, ByteArray.size_append]
      omega
theorem sumP_le (xs : List ByteArray) (n m : Nat) (h : n ≤ m) : sumP xs n ≤ sumP xs m := by
  induction m with
  | zero => obtain rfl : n = 0 := (by omega); exact Nat.le_refl _
  | succ m ih =>
    by_cases e : n = m + 1
    · rw [e]; exact Nat.le_refl _
    · have := ih (by omega)
      simp only [sumP]
      omega
theorem strCells_app (a b : ByteArray) : Lib.strCells (a ++ b) = Lib.strCells a ++ Lib.strCells b := by
  simp [Lib.strCells, ByteArray.data_append, Array.toList_append]
theorem strCells_nil : Lib.strCells (⟨#[]⟩ : ByteArray) = [] := rfl
set_option maxHeartbeats 2000000 in
set_option maxRecDepth 100000 in
theorem join_none (A0 : Option Addr) (c0 : Nat) (sep : ByteArray) (w : World) :
    Calls Tryd.prog 36 #[.slice A0 0 c0, .string sep] w fun e w' => e = .returned (.string (⟨#[]⟩ : ByteArray)) ∧ Below w.heap.size w w' := by
  go_enter Tryd.func36, Tryd.ntmps36
  go_wp2
  go_ret
  exact ⟨rfl, Below.refl _ _⟩
set_option maxHeartbeats 2000000 in
set_option maxRecDepth 100000 in
theorem join_one (ad : Addr) (c0 : Nat) (x sep : ByteArray) (w : World) (hx : w.cell? (ad.add 0) = some (.string x)) :
    Calls Tryd.prog 36 #[.slice (some ad) 1 c0, .string sep] w fun e w' => e = .returned (.string x) ∧ Below w.heap.size w w' := by
  have hx' : w.cell? ad = some (.string x) := by simpa [Addr.add] using hx
  go_enter Tryd.func36, Tryd.ntmps36
  go_wp2
  go_ret
  exact ⟨rfl, Below.refl _ _⟩
set_option maxHeartbeats 2000000 in
set_option maxRecDepth 100000 in
theorem join_many (ad : Addr) (c : Nat) (xs : List ByteArray) (sep : ByteArray) (w : World)
    (hcells : ∀ (j : Nat), j < xs.length → w.cell? (ad.add j) = some (.string (xs.getD j ByteArray.empty)))
    (h2 : 2 ≤ xs.length) (hN : xs.length ≤ 1099511627776) (hcap : xs.length ≤ c) (hlen : (joinP xs sep xs.length).size ≤ 1099511627776) :
    Calls Tryd.prog 36 #[.slice (some ad) xs.length c, .string sep] w fun e w' => e = .returned (.string (joinP xs sep xs.length)) ∧ Below w.heap.size w w' := by
  have HC := Aside0.mk hcells
  clear hcells
  obtain ⟨N, hNN⟩ : ∃ N, xs.length = N + 1 := ⟨xs.length - 1, by omega⟩
  have hjl : sep.size * (xs.length - 1) + sumP xs xs.length ≤ 1099511627776 := by
    have := joinP_size xs sep N
    rw [← hNN] at this
    have e : xs.length - 1 = N := by omega
    rw [e]
    omega
  have hmul : sep.size * (xs.length - 1) ≤ 1099511627776 := by omega
  clear hNN
  generalize hM : sep.size * (xs.length - 1) = M at hjl hmul
  have hcast : ((xs.length : Int) - 1) = ((xs.length - 1 : Nat) : Int) := by omega
  have hlt : sep.size < 9223372036854775807 / (xs.length - 1) := by
    have : sep.size + 1 ≤ 9223372036854775807 / (xs.length - 1) := by
      rw [Nat.le_div_iff_mul_le (by omega), Nat.add_mul, hM]
      omega
    omega
  have hdv : ¬ (9223372036854775807 / ((xs.length : Int) - 1) ≤ (sep.size : Int)) := by
    have e : (9223372036854775807 : Int) / ((xs.length - 1 : Nat) : Int) = ((9223372036854775807 / (xs.length - 1) : Nat) : Int) := IntWalk.up_div (x := 9223372036854775807) rfl rfl
    rw [hcast, e]
    generalize 9223372036854775807 / (xs.length - 1) = q at hlt
    omega
  have hprod : wrap64 ((sep.size : Int) * ((xs.length : Int) - 1)) = (M : Int) := by
    have e : (sep.size : Int) * ((xs.length - 1 : Nat) : Int) = ((sep.size * (xs.length - 1) : Nat) : Int) := IntWalk.up_mul rfl rfl
    rw [hcast, e, hM]
    exact IntWalk.wrap64_in _ ⟨by omega, by omega⟩
  have hM0 : sep.size = 0 → M = 0 := fun h => by rw [← hM, h, Nat.zero_mul]
  clear hlt hcast hM
  have hne0 : ((xs.length : Int) == 0) = false := beq_eq_false_iff_ne.2 (by omega)
  have hne1 : ((xs.length : Int) == 1) = false := beq_eq_false_iff_ne.2 (by omega)
  have HL := Aside0.mk hlen
  clear hlen
  go_enter Tryd.func36, Tryd.ntmps36
  go_wp2_with (fail)
  all_goals (
    go_loop [5, 41] (fun n i => ∃ k : Nat, k ≤ xs.length ∧ i = .int .i64 k ∧ n = .int .i64 ((M + sumP xs k : Nat) : Int)) (fun _ i => xs.length - (intOf i).toNat)
    case atStart => exact ⟨0, Nat.zero_le _, rfl, by first | (simp [sumP]; done) | (have := hM0 (by omega); simp [sumP, this])⟩
    case round =>
      obtain ⟨k, hk, rfl, rfl⟩ := hrel
      by_cases hkn : k < xs.length
      · have hc := HC.out k hkn
        have hstep : sumP xs (k + 1) = sumP xs k + (xs.getD k ByteArray.empty).size := rfl
        have hbound := sumP_le xs (k + 1) xs.length hkn
        generalize hy : xs.getD k ByteArray.empty = y at hc hstep
        generalize hA1 : sumP xs (k + 1) = A1 at hstep hbound
        generalize sumP xs k = A0 at hstep
        have HA1 := Aside0.mk hA1
        clear hA1 hy
        go_wp2_with (fail)
        exact ⟨⟨k + 1, by omega, by go_num, by rw [HA1.out]; refine congrArg _ ?_; omega⟩, by simp [intOf]; omega⟩
      · have hke : k = xs.length := by omega
        subst hke
        generalize hT : sumP xs xs.length = T at hjl
        clear hT
        have hc0 : w.cell? ad = _ := HC.out 0 (by omega)
        go_wp2_with (fail)
        have hMT : ((M : Int) + (T : Int)) = ((M + T : Nat) : Int) := by omega
        rw [hMT]
        refine (Tryd.Builder_Grow_fresh w.heap.size w.heap.size (M + T) _ (Nat.le_refl _) (heap_alloc_new w _) (by simp) (by omega)).mono ?_
        rintro e w1 ⟨rfl, h1, hb1⟩
        have hb1' : Below w.heap.size w w1 := ((Below.refl w.heap.size w).alloc (Nat.le_refl _) _).trans hb1
        have hc1 : w1.cell? ad = some (.string (xs.getD 0 ByteArray.empty)) := (hb1'.cell (p := ad) (World.block_lt_of_cell? w _ hc0)).trans hc0
        have H1 : Aside0 (IsB w.heap.size w.heap.size [] w1) := ⟨Or.inr h1⟩
        have Hb1 := Aside0.mk hb1'
        clear h1 hb1 hb1' hMT hc0
        have HS : Aside0 (∀ k, k ≤ xs.length → (joinP xs sep k).size ≤ 1099511627776) := ⟨fun k hk => Nat.le_trans (joinP_le xs sep k xs.length hk) HL.out⟩
        have hs0 := HS.out 1 (by omega)
        have e1 : (joinP xs sep 1).size = (xs.getD 0 ByteArray.empty).size := by simp [joinP, empty_eq]
        have E1 : Aside0 (Lib.strCells (xs.getD 0 ByteArray.empty) = Lib.strCells (joinP xs sep 1)) := ⟨by simp only [joinP, if_true, strCells_app, strCells_nil, List.nil_append]⟩
        rw [e1] at hs0
        clear e1
        generalize xs.getD 0 ByteArray.empty = x0 at *
        go_wp2_with (fail)
        refine (writeString w.heap.size w.heap.size [] x0 w1 H1.out (by simp; omega) Hb1.out.size).mono ?_
        rintro e w2 ⟨rfl, h2', hb2⟩
        have H2 : Aside0 (IsB w.heap.size w.heap.size (Lib.strCells (joinP xs sep 1)) w2) := ⟨Or.inr (by rw [← E1.out]; simpa using h2')⟩
        have Hb2 := Aside0.mk (Hb1.out.trans hb2)
        clear h2' hb2 hs0 hc1 H1 Hb1 E1
        go_wp2_with (fail)
        go_loopw [65] (fun i wr => ∃ k : Nat, k + 1 ≤ xs.length ∧ i = .int .i64 k ∧ Aside0 (IsB w.heap.size w.heap.size (Lib.strCells (joinP xs sep (k + 1))) wr) ∧ Aside0 (Below w.heap.size w wr)) (fun i _ => xs.length - 1 - (intOf i).toNat)
        case atStart => exact ⟨0, by omega, rfl, H2, Hb2⟩
        case round =>
          clear H2 Hb2
          obtain ⟨k, hk', rfl, HB, HW⟩ := hrel
          by_cases hkr : k + 1 < xs.length
          · have hcw := HC.out (k + 1) hkr
            have hcy : wr.cell? ⟨ad.block, ad.off + 1 + k, none⟩ = some (.string (xs.getD (k + 1) ByteArray.empty)) := by
              have e : ad.add (k + 1) = ⟨ad.block, ad.off + 1 + k, none⟩ := by
                rw [Addr.add_succ', show ad.off + (k + 1) = ad.off + 1 + k by omega]
              rw [← e]
              exact (HW.out.cell (p := ad.add (k + 1)) (World.block_lt_of_cell? w _ hcw)).trans hcw
            clear hcw
            have hs2 := HS.out (k + 2) hkr
            have e2 : joinP xs sep (k + 2) = joinP xs sep (k + 1) ++ sep ++ xs.getD (k + 1) ByteArray.empty := rfl
            rw [e2, ByteArray.size_append, ByteArray.size_append] at hs2
            have E2 : Aside0 (Lib.strCells (joinP xs sep (k + 1)) ++ Lib.strCells sep ++ Lib.strCells (xs.getD (k + 1) ByteArray.empty) = Lib.strCells (joinP xs sep (k + 2))) := ⟨by rw [e2, strCells_app, strCells_app]⟩
            clear e2
            generalize xs.getD (k + 1) ByteArray.empty = y at *
            go_wp2_with (fail)
            refine (writeString w.heap.size w.heap.size _ sep wr HB.out (by rw [Lib.strCells_length]; omega) HW.out.size).mono ?_
            rintro e w3 ⟨rfl, h3, hb3⟩
            have H3 := Aside0.mk h3
            have Hb3 := Aside0.mk (HW.out.trans hb3)
            clear h3 hb3 HB HW
            go_wp2_with (fail)
            refine (writeString w.heap.size w.heap.size _ y w3 (Or.inr H3.out) (by rw [List.length_append, Lib.strCells_length, Lib.strCells_length]; omega) Hb3.out.size).mono ?_
            rintro e w4 ⟨rfl, h4, hb4⟩
            rw [E2.out] at h4
            have H4 : Aside0 (IsB w.heap.size w.heap.size _ w4) := ⟨Or.inr h4⟩
            have Hb4 := Aside0.mk (Hb3.out.trans hb4)
            clear h4 hb4 H3 Hb3
            go_wp2_with (fail)
            go_roundw
            case rel => exact ⟨k + 1, by omega, by go_num, H4, Hb4⟩
            case measure => simp [intOf]; omega
          · have hke : k + 1 = xs.length := by omega
            rw [hke] at HB
            go_wp2_with (fail)
            refine (Tryd.Builder_String_any w.heap.size w.heap.size (joinP xs sep xs.length).data.toList wr (by rw [← Lib.strCells_eq]; exact HB.out) (by exact HW.out.size)).mono ?_
            rintro e w5 ⟨rfl, hw5⟩
            have HB5 := Aside0.mk (HW.out.trans hw5)
            clear hw5 HB HW
            go_wp2_with (fail)
            go_ret
            exact ⟨by simp, HB5.out⟩)
def strings_Join.f (l0 : List ByteArray) (a1 : ByteArray) : Option ByteArray :=
  if l0.length ≤ 1099511627776 ∧ (joinP l0 a1 l0.length).size ≤ 1099511627776 then some (joinP l0 a1 l0.length) else none
theorem strings_Join.calls (A0 : Option Addr) (c0 : Nat) (l0 : List ByteArray) (a1 : ByteArray) (r : ByteArray) (w : World) (hr0 : Kd.C Kd.string w A0 l0.length l0) (hc0 : l0.length ≤ c0) (h : strings_Join.f l0 a1 = some r) :
    Calls Tryd.prog 36 #[.slice A0 l0.length c0, .string a1] w fun e w' => e = .returned (.string r) ∧ Below w.heap.size w w' := by
  unfold strings_Join.f at h
  by_cases c : l0.length ≤ 1099511627776 ∧ (joinP l0 a1 l0.length).size ≤ 1099511627776
  · rw [if_pos c] at h
    obtain rfl := Option.some.inj h
    have hr := Kd.reads_of_C (d := ByteArray.empty) hr0
    by_cases h0 : l0.length = 0
    · rw [h0]; exact join_none A0 c0 a1 w
    · obtain ⟨ad, rfl, hcell⟩ := hr.2.2 (by omega)
      by_cases h1 : l0.length = 1
      · have hx := hcell 0 (by omega)
        have e : joinP l0 a1 l0.length = l0.getD 0 ByteArray.empty := by
          rw [h1]
          have : ∀ s : ByteArray, (⟨#[]⟩ : ByteArray) ++ ⟨#[]⟩ ++ s = s := fun s => by
            cases s with | mk d => exact congrArg ByteArray.mk (by simp [ByteArray.data_append])
          simp only [joinP, if_true]
          exact this _
        rw [e, h1]
        exact join_one ad c0 _ a1 w hx
      · exact join_many ad c0 l0 a1 w (fun j hj => hcell j hj) (by omega) c.1 hc0 c.2
  · rw [if_neg c] at h; cases h
end Go.Proofs.YtflkehpgkiomdaaDoor.Ext
