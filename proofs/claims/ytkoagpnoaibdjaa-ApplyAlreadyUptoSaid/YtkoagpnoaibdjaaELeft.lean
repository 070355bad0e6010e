/-
  apply.left: a hunk's rows but those that a fuzz leaves out; walked by hand.
-/
import Derived.Test.YtkoagpnoaibdjaaEFuncs
import Derived.OneCell
namespace Go.Proofs.Ytkoagpnoaibdjaa.Ext
open Go.RowKit Go.Proofs.Ytkoagpnoaibdjaa.Pp Go.Proofs.YtkoagpnoaibdjaaW.PrintWords Go.Proofs.YtkoagpnoaibdjaaW.PrintLast Go.Proofs.YtkoagpnoaibdjaaW.PrintMore
set_option linter.unusedVariables false
set_option linter.unusedSimpArgs false
attribute [local go_sem] max2_int min2_int max_two min_two max_three min_three max_four min_four
def cutL {α : Type} (l : List α) (lo hi : Int) : List α := (l.take hi.toNat).drop lo.toNat
theorem cutL_length {α : Type} (l : List α) (lo hi : Int) (h0 : 0 ≤ lo) (h1 : lo ≤ hi) (h2 : hi ≤ l.length) : ((cutL l lo hi).length : Int) = hi - lo := by
  unfold cutL; rw [List.length_drop, List.length_take]; omega
theorem cut_rows {α : Type} (k : Kd α) (t e : TypeId) {i : TypeInfo} (ht : Try.prog.underlying t = some (.slice e)) (hi : Try.prog.info? e = some i) (hsz : i.size = k.sz) (A : Option Addr) (c : Nat) (xs : List α) (a b : Int) (h0 : 0 ≤ a) (h1 : a ≤ b) (h2 : b ≤ xs.length) (hc : xs.length ≤ c) :
    ∃ A' : Option Addr, (∀ W : World, (Instr.slice t (.slice A xs.length c) (some (.int .i64 a)) (some (.int .i64 b)) none).run Try.prog W = .ok (.slice A' (cutL xs a b).length (c - a.toNat)) W) ∧
      (∀ w : World, k.C w A xs.length xs → k.C w A' (cutL xs a b).length (cutL xs a b)) ∧ (cutL xs a b).length ≤ c - a.toNat := by
  have hl : (cutL xs a b).length = b.toNat - a.toNat := by unfold cutL; rw [List.length_drop, List.length_take]; omega
  refine ⟨if c = a.toNat then A else A.map (·.add (a.toNat * k.sz)), fun W => ?_, fun w h => ?_, by rw [hl]; omega⟩
  · rw [hl]; exact cut_mid t e .i64 .i64 ht hi k.sz hsz A xs.length c a b h0 h1 h2 hc W
  · exact Kd.C_mid (lo := a.toNat) (hi := b.toNat) h (by omega) (by omega) hc
def behN : List S72 → Nat
  | [] => 0
  | r :: t => if r.f0 = 1 then behN t + 1 else 0
theorem behN_in : ∀ (l : List S72) (j : Nat), j < behN l → (l.getD j z72).f0 = 1
  | [], j, h => by simp [behN] at h
  | r :: t, j, h => by
    simp only [behN] at h
    split at h
    · rename_i h1
      cases j with
      | zero => simpa using h1
      | succ j => simpa using behN_in t j (by omega)
    · omega
theorem behN_at : ∀ (l : List S72), behN l < l.length → (l.getD (behN l) z72).f0 ≠ 1
  | [], h => by simp [behN] at h
  | r :: t, h => by
    simp only [behN, List.length_cons] at h ⊢
    split
    · rename_i h1
      rw [if_pos h1] at h
      simpa using behN_at t (by omega)
    · rename_i h1
      simpa using h1
theorem rev_getD (l : List S72) (j : Nat) (h : j < l.length) : l.reverse.getD j z72 = l.getD (l.length - 1 - j) z72 := by
  simp only [List.getD_eq_getElem?_getD]
  rw [List.getElem?_reverse h]
def leftF (l : List S72) (f : Int) : Option (List S72 × Int) :=
  if 0 ≤ f ∧ 0 ≤ findCh l 0 ∧ findCh l 0 + (behN l.reverse : Int) < l.length ∧ l.length ≤ 4611686018427387904 then
    some (cutL l (if findCh l 0 < f then findCh l 0 else f) (l.length - (if (behN l.reverse : Int) < f then (behN l.reverse : Int) else f)), if findCh l 0 < f then findCh l 0 else f) else none
set_option maxHeartbeats 8000000 in
set_option maxRecDepth 100000 in
theorem left.calls (h : S41) (A5 : Option Addr) (c5 : Nat) (f : Int) (r1 : List S72) (r2 : Int) (w : World) (hr : Kd.C k72 w A5 h.f5.length h.f5) (hc : h.f5.length ≤ c5) (hf : leftF h.f5 f = some (r1, r2)) :
    Calls Try.prog 27 #[agH A5 c5 h, .int .i64 f] w fun e w' => ∃ A' c', e = .returned (.tuple #[.slice A' r1.length c', .int .i64 r2]) ∧ Kd.C k72 w' A' r1.length r1 ∧ r1.length ≤ c' ∧ Below w.heap.size w w' := by
  unfold leftF at hf
  split at hf
  case isFalse => cases hf
  rename_i hh
  obtain ⟨h0, ha, hb, hl⟩ := hh
  obtain ⟨a, hae⟩ : ∃ a, a = findCh h.f5 0 := ⟨_, rfl⟩
  obtain ⟨b, hbe⟩ : ∃ b, b = behN h.f5.reverse := ⟨_, rfl⟩
  rw [← hae] at hf ha hb
  rw [← hbe] at hf hb
  obtain ⟨m, hm⟩ : ∃ m : Int, m = if a < f then a else f := ⟨_, rfl⟩
  obtain ⟨n, hn⟩ : ∃ n : Int, n = if (b : Int) < f then (b : Int) else f := ⟨_, rfl⟩
  rw [← hm, ← hn] at hf
  simp only [Option.some.injEq, Prod.mk.injEq] at hf
  obtain ⟨rfl, rfl⟩ := hf
  have m0 : 0 ≤ m ∧ m ≤ a := by rw [hm]; split <;> omega
  have n0 : 0 ≤ n ∧ n ≤ b := by rw [hn]; split <;> omega
  obtain ⟨i0, hi0, _, hsz, _⟩ := info_parts info72
  obtain ⟨A', hcut, hrc, hcc⟩ := cut_rows k72 39 72 Try.underlying39 hi0 hsz A5 c5 h.f5 m (h.f5.length - n) m0.1 (by omega) (by omega) hc
  have hwn : wrap64 ((h.f5.length : Int) - n) = (h.f5.length : Int) - n := by rw [Pure.w64' (by omega) (by omega)]
  have hcut2 : ∀ W : World, (Instr.slice 39 (.slice A5 h.f5.length c5) (some (.int .i64 m)) (some (.int .i64 (wrap64 ((h.f5.length : Int) - n)))) none).run Try.prog W = .ok (.slice A' (cutL h.f5 m (h.f5.length - n)).length (c5 - m.toNat)) W := by rw [hwn]; exact hcut
  have hcut3 : ∀ W : World, (Instr.slice 39 (.slice A5 h.f5.length c5) (some (.int .i64 m)) (some (.int .i64 (IntKind.i64.wrap ((h.f5.length : Int) - n)))) none).run Try.prog W = .ok (.slice A' (cutL h.f5 m (h.f5.length - n)).length (c5 - m.toNat)) W := by rw [i64_w, hwn]; exact hcut
  have HR := Aside0.mk hr
  have HL := Aside0.mk hl
  have HB := Aside0.mk hb
  have H0 := Aside0.mk h0
  have HA := Aside0.mk ha
  have HCC := Aside0.mk hcc
  have HBE := Aside0.mk hbe
  have HAE := Aside0.mk hae
  have HN0 := Aside0.mk n0
  have HM0 := Aside0.mk m0
  have HRC := Aside0.mk hrc
  clear hr hl hb h0 ha hcc n0 m0 hi0 hsz hrc hwn hbe hae
  go_enter Try.func27, Try.ntmps27
  go_upto_region 1 with (fail)
  have HX := Aside0.mk (below_alloc (Below.refl w.heap.size w) (Obj.cells #[.int .i64 h.f0, .int .i64 h.f1, .int .i64 h.f2, .int .i64 h.f3, .string h.f4, .slice A5 h.f5.length c5] 41))
  have hk5 := blk_new w (Obj.cells #[.int .i64 h.f0, .int .i64 h.f1, .int .i64 h.f2, .int .i64 h.f3, .string h.f4, .slice A5 h.f5.length c5] 41)
  generalize w.alloc (Obj.cells #[.int .i64 h.f0, .int .i64 h.f1, .int .i64 h.f2, .int .i64 h.f3, .string h.f4, .slice A5 h.f5.length c5] 41) = W at HX hk5 ⊢
  have x5 := (blk_cell hk5 5).trans rfl
  have HK5 := Aside0.mk hk5
  clear hk5
  go_upto_region 2 with (go_at_call 50; (with_reducible refine (indexCh.calls A5 c5 h.f5 a _ ?s1 ?s2 HAE.out.symm).mono ?_); (case s1 => exact Kd.C_below HR.out HX.out); (case s2 => have := HL.out; omega); rintro e w' ⟨rfl, hb⟩; have HX2 := Aside0.mk (below_step HX.out hb); have HK6 := Aside0.mk (blk_below HK5.out hb); clear hb x5; have x5 := (blk_cell HK6.out 5).trans rfl)
  clear HX HK5
  go_wp2
  go_loopg [7] (b + 1) (fun kq v7 w' => ∃ (i : Nat), v7 = .int .i64 (i : Int) ∧ Aside0 (i + kq = b + 1 ∧ i ≤ b) ∧ Aside0 (Below w.heap.size w w') ∧ Aside0 (w'.heap[w.heap.size]? = some (.cells #[.int .i64 h.f0, .int .i64 h.f1, .int .i64 h.f2, .int .i64 h.f3, .string h.f4, .slice A5 h.f5.length c5] 41 (0, 0))))
  case atStart => exact ⟨0, rfl, ⟨by omega⟩, HX2, HK6⟩
  case round =>
    clear HX2 HK6 x5
    obtain ⟨i, rfl, HK, HX, HK5⟩ := hrel
    have x5 := (blk_cell HK5.out 5).trans rfl
    have hib := HK.out
    have hbl := HB.out
    have hll := HL.out
    have haa := HA.out
    have p1 : 0 ≤ (h.f5.length : Int) - 1 - i := by omega
    have q1 : (h.f5.length : Int) - 1 - i < h.f5.length := by omega
    have w1 : wrap64 ((h.f5.length : Int) - 1) = (h.f5.length : Int) - 1 := by rw [Pure.w64' (by omega) (by omega)]
    have w2 : wrap64 (wrap64 ((h.f5.length : Int) - 1) - (i : Int)) = (h.f5.length : Int) - 1 - i := by rw [w1, Pure.w64' (by omega) (by omega)]
    obtain ⟨ad, e1, hx0, hx1⟩ := at_T72 (Kd.C_below HR.out HX.out) ((h.f5.length : Int) - 1 - i) p1 q1
    rw [← w2] at p1 q1 hx0 hx1
    cases e1
    have hrd : rd_T72 h.f5 ((h.f5.length : Int) - 1 - i) = h.f5.reverse.getD i z72 := by
      rw [rev_getD _ _ (by omega)]
      show h.f5.getD ((h.f5.length : Int) - 1 - i).toNat z72 = _
      congr 1
      omega
    rw [w2] at hx0 hx1
    have hnn : ((h.f5.length : Int) - 1 - i).toNat = h.f5.length - 1 - i := by omega
    rw [hnn] at hx0 hx1
    by_cases hi : i < b
    · have hk : (rd_T72 h.f5 ((h.f5.length : Int) - 1 - i)).f0 = 1 := by rw [hrd]; exact behN_in _ _ (by rw [← HBE.out]; exact hi)
      rw [hk] at hx0
      clear hk hrd
      have HW : Aside0 (wrap64 ((i : Int) + 1) = ((i + 1 : Nat) : Int)) := ⟨by rw [Pure.w64' (by omega) (by omega)]; omega⟩
      go_wp2
      go_roundg (gk - 1)
      case measure => have := HK.out; omega
      case rel => exact ⟨i + 1, (by first | (rw [HW.out]; done) | go_num | (simp; done)), ⟨by have := HK.out; omega⟩, HX, HK5⟩
    · have hk : (rd_T72 h.f5 ((h.f5.length : Int) - 1 - i)).f0 ≠ 1 := by
        rw [hrd, show i = behN h.f5.reverse by rw [← HBE.out]; omega]
        exact behN_at _ (by rw [← HBE.out, List.length_reverse]; omega)
      have z2 : ((rd_T72 h.f5 ((h.f5.length : Int) - 1 - i)).f0 == 1) = false := beq_eq_false_iff_ne.mpr hk
      have hie : i = b := by omega
      cases hie
      clear hk hrd
      by_cases c1 : a < f <;> by_cases c2 : (b : Int) < f
      all_goals
        first | rw [if_pos c1] at hm | rw [if_neg c1] at hm
        first | rw [if_pos c2] at hn | rw [if_neg c2] at hn
        subst hm hn
        go_wp2
        go_ret2
        exact ⟨_, _, rfl, HRC.out _ (Kd.C_below HR.out HX.out), HCC.out, HX.out⟩
end Go.Proofs.Ytkoagpnoaibdjaa.Ext
