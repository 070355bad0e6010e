/-
  The law selvage/selvagelaw17.ApplyAlready: its row (the second form: what is read is of bulk at most 1048576), out of the printed contract and the pure theorem. Condition: none but the row's own.
-/
import Derived.Test.YtkoagpnoaibdjaaRows
import Derived.Test.YtkoagpnoaibdjaaPp21
import Derived.Test.YtkoagpnoaibdjaaPureM
import Derived.WalkKit
import Derived.ProofKit
import Derived.OpenShut
import Derived.ShutString
import Derived.ChangeOld
import Derived.Below
import Derived.SizedLaws
import Derived.SliceStrings
import Derived.LaidHandle
import Derived.RowKitTokens
import Derived.Deep.DeepHandedRow
import Derived.Stop.Joined
import Derived.Shelf.Vars
import Derived.LaidLaws
namespace Go.Proofs.Ytkoagpnoaibdjaa.applyAlready
open Go.ChangeShapes Go.WideShapes Go.ChangeAt Go.RowKit
open Go.ChangeMaps (open_string shut_string)
open Go.Proofs.YtkoagpnoaibdjaaW.PrintWords (Kd)
open Go.Proofs.YtkoagpnoaibdjaaW.PrintWords
set_option linter.unusedVariables false
set_option linter.unusedSimpArgs false
theorem own : ownKnob Try.prog.godebug = none := by kernel_rfl
noncomputable def laidWorld (os : Os) : World := World.holding Try.prog os ⟨#[], #[], []⟩
theorem reads (os : Os) {H : Type} (enc : TypeId × Value → H) : ∃ places, DataW.whole enc Try.prog ((laidWorld os).forCall (fun _ _ => 0) ⟨#[], #[.slice none 0 0, .slice none 0 0, .agg #[.slice none 0 0, .slice none 0 0, .slice none 0 0, .int .i64 0, .int .i64 0]], []⟩).memory Try.f5.params.toList Rows.applyAlreadySpec.vars false (#[.slice none 0 0, .slice none 0 0, .agg #[.slice none 0 0, .slice none 0 0, .slice none 0 0, .int .i64 0, .int .i64 0]] : Array Value).toList 8 = some ([.nil, .nil, .agg [.nil, .nil, .nil, .lit (.int .i64 0), .lit (.int .i64 0)]], [], places) :=
  ⟨[], by kernel_rfl⟩
theorem laidOut : laidOutB Try.prog = true := by kernel_rfl
theorem bulk_strs {H : Type} : ∀ l : List ByteArray, Rows.uptoBulkAll (strs l : List (DataW H)) = (l.map (·.size)).sum + l.length
  | [] => rfl
  | x :: l => by
    have ih := bulk_strs (H := H) l
    simp only [strs] at ih ⊢
    simp only [List.map_cons, Rows.uptoBulkAll, Rows.uptoBulk, List.sum_cons, List.length_cons, ih]
    rw [Array.length_toList]
    have e : x.data.size = x.size := rfl
    omega
set_option maxRecDepth 100000 in
theorem contract (H : Type) (enc : TypeId × Value → H) (W : World) (base : Nat) (args : Array Value) (ds gs : List (DataW H)) (before : List MemPlace)
    (hval : ∀ (j : Nat) t v, Try.f5.params[j]? = some t → args[j]? = some v → Value.okWide Try.prog W .any base t v)
    (hW : DataW.Whole enc Try.prog Try.f5.params.toList Rows.applyAlreadySpec.vars false W args.toList ds gs before)
    (hk : Rows.uptoSmall H (ds ++ gs) = true) :
    Calls Try.prog 5 args W fun e W' => ∃ v, e = .returned v ∧ Rows.applyAlreadySpec.post enc Try.prog Try.f5 false true false false W args v W' := by
  have hW' := hW
  obtain ⟨p, q, hA0, hV, rfl, hfz, hnd⟩ := hW
  have hA : DataW.TrodAll enc Try.prog W 0 (fun _ => true) true Try.f5.params.toList args.toList ds p := hA0
  rw [Try.params5] at hA hval
  obtain ⟨v0, vs0, d0, ds0, p0, q0, hargs, rfl, rfl, h0, r0⟩ := trodAll_cons hA
  obtain ⟨v1, vs1, d1, ds1, p1, q1, rfl, rfl, rfl, h1, r1⟩ := trodAll_cons r0
  obtain ⟨v2, vs2, d2, ds2, p2, q2, rfl, rfl, rfl, h2, r2⟩ := trodAll_cons r1
  obtain ⟨rfl, rfl, rfl⟩ := trodAll_nil r2
  obtain rfl : args = #[v0, v1, v2] := by cases args; simp_all
  obtain ⟨rfl, rfl⟩ := trodVars_none hV
  obtain ⟨A0, len0, cap0, rfl⟩ := okWide_slice Try.underlying23 (hval 0 23 v0 rfl rfl)
  have k0 := h0
  have lt0 : ∀ x ∈ p0, x.block < W.heap.size := by obtain ⟨m, hm⟩ := k0; exact DataW.trod_lt m _ _ _ hm
  obtain ⟨a0, hn0, hC0, hc0, hb0⟩ : ∃ l : List ByteArray, len0 = l.length ∧ Kd.C Kd.string W A0 l.length l ∧ l.length ≤ cap0 ∧ (l.map (·.size)).sum + l.length + 1 ≤ Rows.uptoBulk d0 := by
    obtain ⟨fuel, hf⟩ := h0
    rcases open_strings Try.underlying23 Try.underlying9 (by kernel_rfl) hf with ⟨hcs, hx⟩ | ⟨x, l, c, ss, hcs, _, hl, hm, hz, hx, hcell, _⟩
    · simp [Value.cells] at hcs
      obtain ⟨rfl, rfl, rfl⟩ := hcs
      simp only [Prod.mk.injEq] at hx
      obtain ⟨rfl, rfl⟩ := hx
      exact ⟨[], rfl, Kd.C_of_reads (d := ByteArray.empty) ⟨rfl, by simp, fun h => absurd h (by simp)⟩, by simp, by simp [Rows.uptoBulk]⟩
    · simp [Value.cells] at hcs
      obtain ⟨rfl, rfl, rfl⟩ := hcs
      simp only [Prod.mk.injEq] at hx
      obtain ⟨rfl, rfl⟩ := hx
      have hlen : len0 ≤ ss.length := by rw [hz]; split <;> omega
      have hlt : (ss.take len0).length = len0 := by rw [List.length_take]; omega
      refine ⟨ss.take len0, hlt.symm, Kd.C_of_reads (d := ByteArray.empty) ⟨rfl, by rw [hlt]; unfold maxLen at hm; omega, fun _ => ⟨x, rfl, fun j hj => ?_⟩⟩, by rw [hlt]; exact hl, ?_⟩
      · rw [hlt] at hj
        rw [hcell j (by omega)]
        congr 2
        rw [List.getD_eq_getElem?_getD, List.getD_eq_getElem?_getD, List.getElem?_take, if_pos hj]
      · simp only [Rows.uptoBulk]
        have := bulk_strs (H := H) (ss.take len0)
        omega
  subst hn0
  obtain ⟨A1, len1, cap1, rfl⟩ := okWide_slice Try.underlying26 (hval 1 26 v1 rfl rfl)
  have k1 := h1
  have lt1 : ∀ x ∈ p1, x.block < W.heap.size := by obtain ⟨m, hm⟩ := k1; exact DataW.trod_lt m _ _ _ hm
  obtain ⟨a1, hn1, hC1, hc1, hb1, ho1⟩ : ∃ l : List (Pp.S41), len1 = l.length ∧ Kd.C Pp.k41 W A1 l.length l ∧ l.length ≤ cap1 ∧ ((l.map Ext.wt41).sum + 1) ≤ Rows.uptoBulk d1 ∧ ∀ z_ ∈ l, Ext.ok41 z_ := by
    obtain ⟨fuel, hf⟩ := h1
    obtain ⟨l, hK, hw, ho⟩ := (Ext.opens_slice (P := Try.prog) Try.underlying26 (by kernel_rfl) Ext.opens41).2 enc W true fuel _ (d1, p1) hf
    obtain ⟨A', c', he, hl, hC⟩ := hK
    simp only [Value.cells, List.cons.injEq, Value.slice.injEq, and_true] at he
    obtain ⟨rfl, rfl, rfl⟩ := he
    exact ⟨l, rfl, hC, hl, hw, ho⟩
  subst hn1
  obtain ⟨cs2, rfl, -⟩ := okWide_struct Try.underlying25 (hval 2 25 v2 rfl rfl)
  have k2 := h2
  have lt2 : ∀ x ∈ p2, x.block < W.heap.size := by obtain ⟨m, hm⟩ := k2; exact DataW.trod_lt m _ _ _ hm
  obtain ⟨a2, hK2, hb2, ho2⟩ : ∃ a : Pp.S25, Pp.k25.K W a cs2.toList ∧ Ext.wt25 a ≤ Rows.uptoBulk d2 ∧ Ext.ok25 a := by
    obtain ⟨fuel, hf⟩ := h2
    exact Ext.opens25.2 enc W true fuel _ (d2, p2) hf
  obtain ⟨A2_0, c2_0, A2_1, c2_1, A2_2, c2_2, e2, hc2_0, hC2_0, hc2_1, hC2_1, hc2_2, hC2_2⟩ := Pp.k25_open hK2
  obtain rfl := (show cs2 = _ from Array.toList_inj.mp (e2.trans (List.toList_toArray).symm))
  have hb : ((a0.map (·.size)).sum + a0.length + 1) + ((a1.map Ext.wt41).sum + 1) + Ext.wt25 a2 ≤ 1048576 := by
    have h := of_decide_eq_true hk
    simp only [Rows.uptoBulkAll, Rows.uptoBulk, List.append_nil, List.cons_append, List.nil_append, Array.length_toList] at h
    have e : ∀ s : ByteArray, s.data.size = s.size := fun _ => rfl
    try simp only [e] at h
    omega
  clear hA0
  obtain ⟨k, hp⟩ := Pure.ApplyAlready a0 a1 a2 ho1 ho2 hb
  refine (Pp.selvagelaw17_ApplyAlready.calls k A0 cap0 a0 A1 cap1 a1 A2_0 c2_0 a2.f0 A2_1 c2_1 a2.f1 A2_2 c2_2 a2.f2 a2.f3 a2.f4 true W hC0 hc0 hC1 hc1 hC2_0 hc2_0 hC2_1 hc2_1 hC2_2 hc2_2 hp).mono fun e W' ⟨he, bel⟩ => ?_
  subst he
  exact ⟨_, rfl, _, _, _, [], _, [], hW', trodAll_mk1 (shut_bool Try.underlying4 _), (trodAll_cons_mk (Below.trod laidOut (by kernel_rfl) (of_decide_eq_true (by kernel_rfl)) k0 bel lt0) (trodAll_cons_mk (Below.trod laidOut (by kernel_rfl) (of_decide_eq_true (by kernel_rfl)) k1 bel lt1) (trodAll_cons_mk (Below.trod laidOut (by kernel_rfl) (of_decide_eq_true (by kernel_rfl)) k2 bel lt2) trodAll_mk0))), rfl, bel.frame _, fun h => by cases h⟩
set_option maxRecDepth 100000 in
theorem lifted (os : Os) (started : os.Started) (H : Type) (enc : TypeId × Value → H) (F : Stop.Interp) :
    ReturnsInHanded {} Try.checked os 5 .any ((Rows.OpenSpec.upto Rows.applyAlreadySpec).preRow enc Try.prog Try.f5 Rows.applyAlreadyUptoRow.domain false Rows.applyAlreadyUptoRow.laid) (((Rows.OpenSpec.upto Rows.applyAlreadySpec).at F).post enc Try.prog Try.f5 false true false false) := by
  obtain ⟨places, hx⟩ := reads os enc
  refine returnsInHanded_of_row (C := Try.checked) (s := (Rows.OpenSpec.upto Rows.applyAlreadySpec)) own started (by kernel_rfl) Try.func5
    (witness_row_at (enc := enc) (C := Try.checked) false (laidWorld os) #[.slice none 0 0, .slice none 0 0, .agg #[.slice none 0 0, .slice none 0 0, .slice none 0 0, .int .i64 0, .int .i64 0]] rfl (by kernel_rfl) (by kernel_rfl) (by kernel_rfl)
      (OpenSpec.preRow_of_cond 8 hx (by kernel_rfl) (fun k hk => by cases hk; kernel_rfl) (by kernel_rfl) (laidMetH_nil _ _))) ?_
  intro W base args ds gs before hval hW _ hcond hsz hL _ _
  exact contract H enc W base args ds gs before hval hW (hcond _ rfl)
theorem over : Rows.ApplyAlreadyUptoSaid :=
  OpenClaim.holds_of_cond 5 Try.f5 rfl rfl rfl rfl rfl rfl rfl ⟨rfl, rfl, rfl, rfl, rfl⟩ rfl rfl rfl rfl rfl (by kernel_rfl) Try.func5 (by kernel_rfl)
    (of_decide_eq_true (by kernel_rfl)) (by unfold Func.isWrapper; first | (rw [if_pos (by decide +kernel)]; kernel_rfl) | (rw [if_neg (by decide +kernel)]; exact ⟨rfl, rfl⟩))
    (fun os started H enc _ F => by rw [OpenClaim.pre_eq_preRow]; exact lifted os started H enc F)
#print axioms over
end Go.Proofs.Ytkoagpnoaibdjaa.applyAlready
namespace Go.Proofs.Ytkoagpnoaibdjaa
/-- The row, under a short name, for the claim. -/
theorem applyAlready_holds : Rows.ApplyAlreadyUptoSaid := applyAlready.over
end Go.Proofs.Ytkoagpnoaibdjaa
