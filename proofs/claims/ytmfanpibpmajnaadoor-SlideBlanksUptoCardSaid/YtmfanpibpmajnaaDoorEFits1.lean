/-
  edits.Fits' closure (Fits$1), walked by hand over the printed contract of slices.Equal.
-/
import Derived.Test.YtmfanpibpmajnaaDoorPp3
import Derived.OneCell
import Derived.Test.YtmfanpibpmajnaaDoorETail
namespace Go.Proofs.YtmfanpibpmajnaaDoor.Ext
open Go.RowKit Go.Proofs.YtmfanpibpmajnaaDoor.Pp Go.Proofs.YtmfanpibpmajnaaDoorW.PrintWords Go.Proofs.YtmfanpibpmajnaaDoorW.PrintLast Go.Proofs.YtmfanpibpmajnaaDoorW.PrintMore
def cutI (l : List Int) (lo hi : Int) : List Int := (l.take hi.toNat).drop lo.toNat
def fits1.f (k : Nat) (la lb : List Int) (f : Bool) (i j c : Int) : Option Bool :=
  if f = true then
    (if 0 ≤ i ∧ i ≤ wrap64 (i + c) ∧ wrap64 (i + c) ≤ la.length ∧ 0 ≤ j ∧ j ≤ wrap64 (j + c) ∧ wrap64 (j + c) ≤ lb.length then
      slices_Equal_int_int.f k (cutI la i (wrap64 (i + c))) (cutI lb j (wrap64 (j + c))) else none)
  else some false
theorem fits1.mono (la lb : List Int) (f : Bool) (i j c : Int) (k : Nat) : LeO (fits1.f k la lb f i j c) (fits1.f (k + 1) la lb f i j c) := by
  unfold fits1.f
  refine LeO.ite (LeO.ite (slices_Equal_int_int.mono _ _ _) (LeO.refl _)) (LeO.refl _)
set_option maxHeartbeats 4000000 in
set_option maxRecDepth 100000 in
theorem fits1.calls (k bF bA bB : Nat) (f r : Bool) (Aa Ab : Option Addr) (ca cb : Nat) (la lb : List Int) (i j c : Int) (w : World)
    (hF : w.heap[bF]? = some (.cells #[.bool f] 4 (0, 0))) (hA : w.heap[bA]? = some (.cells #[.slice Aa la.length ca] 23 (0, 0))) (hB : w.heap[bB]? = some (.cells #[.slice Ab lb.length cb] 23 (0, 0)))
    (hra : Kd.C (Kd.int .i64) w Aa la.length la) (hca : la.length ≤ ca) (hrb : Kd.C (Kd.int .i64) w Ab lb.length lb) (hcb : lb.length ≤ cb) (h : fits1.f k la lb f i j c = some r) :
    Calls Tryd.prog 29 #[.int .i64 i, .int .i64 j, .int .i64 c, .pointer (some ⟨bF, 0, none⟩), .pointer (some ⟨bA, 0, none⟩), .pointer (some ⟨bB, 0, none⟩)] w
      fun e w' => e = .returned (.tuple #[]) ∧ ∃ n, w' = (w.drewN n).setCell ⟨bF, 0, none⟩ (.bool r) := by
  have cF := cell_of_one hF
  have cA := cell_of_one hA
  have cB := cell_of_one hB
  have fF := free_of_one hF
  have fA := free_of_one hA
  have fB := free_of_one hB
  have hnA : bF ≠ bA := by intro e; rw [e, hA] at hF; cases hF
  have hnB : bF ≠ bB := by intro e; rw [e, hB] at hF; cases hF
  unfold fits1.f at h
  cases f with
  | false =>
    rw [if_neg (by simp)] at h
    obtain rfl := Option.some.inj h
    go_enter Tryd.func29, Tryd.ntmps29
    go_upto_region 0 with (fail)
    refine wp_region_quiet_last 16 _ rfl (by kernel_rfl) (by kernel_rfl) (by kernel_rfl) (by kernel_rfl) ?_
    simp only [List.take_succ_cons, List.take_zero]
    repeat (go_big_quiet_step (fail))
    refine wpQuiet_nil ?_
    rintro w' ⟨nq, rfl⟩
    go_wp2
    go_end0
    exact ⟨rfl, nq, rfl⟩
  | true =>
    rw [if_pos rfl] at h
    split at h
    case isFalse => cases h
    rename_i hc
    obtain ⟨h1, h2, h3, h4, h5, h6⟩ := hc
    obtain ⟨i0, hi0, _, hsz, _⟩ := info_parts info3
    obtain ⟨A1, hcut1, hA1, hC1⟩ := print_mid_of (P := Tryd.prog) (Value.int .i64) 0 23 3 .i64 .i64 Tryd.underlying23 hi0 hsz Aa ca la i (wrap64 (i + c)) h1 h2 h3 hca
    obtain ⟨A2, hcut2, hA2, hC2⟩ := print_mid_of (P := Tryd.prog) (Value.int .i64) 0 23 3 .i64 .i64 Tryd.underlying23 hi0 hsz Ab cb lb j (wrap64 (j + c)) h4 h5 h6 hcb
    have hcx1 : ∀ (W : World), (Instr.slice 23 (.slice Aa la.length ca) (some (.int .i64 i)) (some (.int .i64 (IntKind.i64.wrap (i + c)))) none).run Tryd.prog W = .ok (.slice A1 (cutI la i (wrap64 (i + c))).length (ca - i.toNat)) W := by intro W; rw [i64_w]; unfold cutI; exact hcut1 W
    have hcy1 : ∀ (W : World), (Instr.slice 23 (.slice Aa la.length ca) (some (.int .i64 i)) (some (.int .i64 (wrap64 (i + c)))) none).run Tryd.prog W = .ok (.slice A1 (cutI la i (wrap64 (i + c))).length (ca - i.toNat)) W := by intro W; unfold cutI; exact hcut1 W
    have hcx2 : ∀ (W : World), (Instr.slice 23 (.slice Ab lb.length cb) (some (.int .i64 j)) (some (.int .i64 (IntKind.i64.wrap (j + c)))) none).run Tryd.prog W = .ok (.slice A2 (cutI lb j (wrap64 (j + c))).length (cb - j.toNat)) W := by intro W; rw [i64_w]; unfold cutI; exact hcut2 W
    have hcy2 : ∀ (W : World), (Instr.slice 23 (.slice Ab lb.length cb) (some (.int .i64 j)) (some (.int .i64 (wrap64 (j + c)))) none).run Tryd.prog W = .ok (.slice A2 (cutI lb j (wrap64 (j + c))).length (cb - j.toNat)) W := by intro W; unfold cutI; exact hcut2 W
    clear hcut1 hcut2
    clear h1 h2 h3 h4 h5 h6
    have HR1 : Kd.C (Kd.int .i64) w A1 (cutI la i (wrap64 (i + c))).length (cutI la i (wrap64 (i + c))) := Kd.C_of_reads (h1 := fun _ => rfl) (hA1 _ (Kd.reads_of_C hra))
    have HR2 : Kd.C (Kd.int .i64) w A2 (cutI lb j (wrap64 (j + c))).length (cutI lb j (wrap64 (j + c))) := Kd.C_of_reads (h1 := fun _ => rfl) (hA2 _ (Kd.reads_of_C hrb))
    go_enter Tryd.func29, Tryd.ntmps29
    go_upto_region 0 with (fail)
    refine wp_region_quiet_last 16 _ rfl (by kernel_rfl) (by kernel_rfl) (by kernel_rfl) (by kernel_rfl) ?_
    simp only [List.take_succ_cons, List.take_zero]
    repeat (go_big_quiet_step (exact Calls.quiet_of ((slices_Equal_int_int.calls k A1 _ (cutI la i (wrap64 (i + c))) A2 _ (cutI lb j (wrap64 (j + c))) r _ (Kd.C_drewN HR1 _) hC1 (Kd.C_drewN HR2 _) hC2 h).mono (fun e w' he => ⟨he.1, he.2.out⟩))))
    refine wpQuiet_nil ?_
    rintro w' ⟨nq, rfl⟩
    go_wp2
    go_end0
    exact ⟨rfl, nq, rfl⟩
end Go.Proofs.YtmfanpibpmajnaaDoor.Ext
