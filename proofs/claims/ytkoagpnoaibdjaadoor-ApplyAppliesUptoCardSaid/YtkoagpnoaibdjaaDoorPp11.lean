-- Printed by this session's pp.py over the kit's printer, out of the translation. Lean checks it.
import Derived.Test.YtkoagpnoaibdjaaDoorESq
import Derived.Test.YtkoagpnoaibdjaaDoorPp0
import Derived.Test.YtkoagpnoaibdjaaDoorPp1
import Derived.Test.YtkoagpnoaibdjaaDoorPp3
import Derived.Test.YtkoagpnoaibdjaaDoorPp9
import Derived.Test.YtkoagpnoaibdjaaDoorPp10
import Derived.Test.YtkoagpnoaibdjaaDoorEApply
import Derived.Test.YtkoagpnoaibdjaaDoorERefApply
import Derived.Test.YtkoagpnoaibdjaaDoorESure
namespace Go.Proofs.YtkoagpnoaibdjaaDoor.Pp
open Go.RowKit Go.Proofs.YtkoagpnoaibdjaaDoor.Ext Go.Proofs.YtkoagpnoaibdjaaDoorW.PrintWords Go.Proofs.YtkoagpnoaibdjaaDoorW.PrintLast Go.Proofs.YtkoagpnoaibdjaaDoorW.PrintMore
attribute [local go_sem] max2_int min2_int max_two min_two max_three min_three max_four min_four   -- for this text's walks alone
set_option linter.unusedVariables false
set_option linter.unusedSimpArgs false
attribute [local go_sem high] eqA38
mutual
def selvagelaw17_ApplyApplies.j0 : Nat → List (S38) → List Int → List (S39) → List Int → Bool → Option (Bool)
 | 0, _, _, _, _, _ => none
 | k + 1, x10, x11, x14, x15, x77 => if x77 = true then (none) else (selvagelaw17_ApplyApplies.l0 k x10 x11 x14 x15 0)
def selvagelaw17_ApplyApplies.l0 : Nat → List (S38) → List Int → List (S39) → List Int → Int → Option (Bool)
 | 0, _, _, _, _, _ => none
 | k + 1, x10, x11, x14, x15, x17 => if x17 < (x10.length : Int) then (if 0 ≤ x17 then (if x17 < (x14.length : Int) then (if (!(((rd_T38 x10 x17).f0) == ((rd_T39 x14 x17).f0)) || (!(((rd_T38 x10 x17).f1) == ((rd_T39 x14 x17).f1)) || (!(((rd_T38 x10 x17).f2) == ((rd_T39 x14 x17).f2)) || (!(((rd_T38 x10 x17).f3) == ((rd_T39 x14 x17).f3)))))) = true then (none) else (selvagelaw17_ApplyApplies.l0 k x10 x11 x14 x15 (wrap64 (x17 + 1)))) else (none)) else (none)) else (selvagelaw17_ApplyApplies.l1 k x11 x15 0)
def selvagelaw17_ApplyApplies.l1 : Nat → List Int → List Int → Int → Option (Bool)
 | 0, _, _, _ => none
 | k + 1, x11, x15, x18 => if x18 < (x11.length : Int) then (if 0 ≤ x18 then (if x18 < (x15.length : Int) then (if (rd x11 x18) = (rd x15 x18) then (selvagelaw17_ApplyApplies.l1 k x11 x15 (wrap64 (x18 + 1))) else (none)) else (none)) else (none)) else ((selvagelaw17_sure.f k).bind fun t244 => (some t244))
end
def selvagelaw17_ApplyApplies.f (k : Nat) (l0 : List ByteArray) (l1 : List (S44)) (a2 : Int) : Option (Bool) := if ([] : List ByteArray).length + l0.length < 8796093022208 then ((some (([] : List ByteArray) ++ l0 : List ByteArray)).bind fun y210 => ((selvagelaw17_twin.f k l1).bind fun t213 => ((apply_Apply.f k y210 t213 a2).bind fun bt216 => ((selvageref17_Apply.f k l0 l1 a2).bind fun bt226 => ((selvagelaw17_same.f k bt216.1 bt226.1).bind fun t236 => (if t236 = true then ((selvagelaw17_num.f bt216.2.2.2).bind fun t237 => (if t237 = bt226.2.2.2 then (if (bt216.2.1.length : Int) = (bt226.2.1.length : Int) then (if (bt216.2.2.1.length : Int) = (bt226.2.2.1.length : Int) then ((selvagelaw17_same.f k y210 l0).bind fun t238 => (if t238 = true then ((selvagelaw17_sameHunks.f k t213 l1).bind fun t239 => (selvagelaw17_ApplyApplies.j0 k bt216.2.1 bt216.2.2.1 bt226.2.1 bt226.2.2.1 (!t239))) else (selvagelaw17_ApplyApplies.j0 k bt216.2.1 bt216.2.2.1 bt226.2.1 bt226.2.2.1 true))) else (selvagelaw17_ApplyApplies.j0 k bt216.2.1 bt216.2.2.1 bt226.2.1 bt226.2.2.1 true)) else (selvagelaw17_ApplyApplies.j0 k bt216.2.1 bt216.2.2.1 bt226.2.1 bt226.2.2.1 true)) else (selvagelaw17_ApplyApplies.j0 k bt216.2.1 bt216.2.2.1 bt226.2.1 bt226.2.2.1 true))) else (selvagelaw17_ApplyApplies.j0 k bt216.2.1 bt216.2.2.1 bt226.2.1 bt226.2.2.1 true))))))) else (none)
theorem selvagelaw17_ApplyApplies.j0_dead : ∀ k y0 y1 y2 y3, selvagelaw17_ApplyApplies.j0 k y0 y1 y2 y3 true = none
 | 0, _, _, _, _ => rfl
 | k + 1, _, _, _, _ => by simp [selvagelaw17_ApplyApplies.j0]
set_option maxHeartbeats 80000000 in
set_option maxRecDepth 100000 in
theorem selvagelaw17_ApplyApplies.calls (k : Nat) (A0 : Option Addr) (c0 : Nat) (l0 : List ByteArray) (A1 : Option Addr) (c1 : Nat) (l1 : List (S44)) (a2 : Int) (r : Bool) (w : World) (hr0 : Kd.C Kd.string w A0 l0.length l0) (hc0 : l0.length ≤ c0) (hr1 : Kd.C k44 w A1 l1.length l1) (hc1 : l1.length ≤ c1) (hGL : Glob w) (h : selvagelaw17_ApplyApplies.f k l0 l1 a2 = some r) :
  Calls Tryd.prog 3 #[.slice A0 l0.length c0, .slice A1 l1.length c1, .int .i64 a2] w fun e w' => e = .returned (.bool r) ∧ Below w.heap.size w w' := by
 have hu38 := Tryd.underlying38
 have hu39 := Tryd.underlying39
 have HR0 := Aside0.mk hr0
 have HC0 := Aside0.mk hc0
 clear hr0 hc0
 have HR1 := Aside0.mk hr1
 have HC1 := Aside0.mk hc1
 clear hr1 hc1
 have HB := Aside0.mk (Below.refl w.heap.size w)
 have H : (if ([] : List ByteArray).length + l0.length < 8796093022208 then ((some (([] : List ByteArray) ++ l0 : List ByteArray)).bind fun y210 => ((selvagelaw17_twin.f k l1).bind fun t213 => ((apply_Apply.f k y210 t213 a2).bind fun bt216 => ((selvageref17_Apply.f k l0 l1 a2).bind fun bt226 => ((selvagelaw17_same.f k bt216.1 bt226.1).bind fun t236 => (if t236 = true then ((selvagelaw17_num.f bt216.2.2.2).bind fun t237 => (if t237 = bt226.2.2.2 then (if (bt216.2.1.length : Int) = (bt226.2.1.length : Int) then (if (bt216.2.2.1.length : Int) = (bt226.2.2.1.length : Int) then ((selvagelaw17_same.f k y210 l0).bind fun t238 => (if t238 = true then ((selvagelaw17_sameHunks.f k t213 l1).bind fun t239 => (selvagelaw17_ApplyApplies.j0 k bt216.2.1 bt216.2.2.1 bt226.2.1 bt226.2.2.1 (!t239))) else (selvagelaw17_ApplyApplies.j0 k bt216.2.1 bt216.2.2.1 bt226.2.1 bt226.2.2.1 true))) else (selvagelaw17_ApplyApplies.j0 k bt216.2.1 bt216.2.2.1 bt226.2.1 bt226.2.2.1 true)) else (selvagelaw17_ApplyApplies.j0 k bt216.2.1 bt216.2.2.1 bt226.2.1 bt226.2.2.1 true)) else (selvagelaw17_ApplyApplies.j0 k bt216.2.1 bt216.2.2.1 bt226.2.1 bt226.2.2.1 true))) else (selvagelaw17_ApplyApplies.j0 k bt216.2.1 bt216.2.2.1 bt226.2.1 bt226.2.2.1 true))))))) else (none)) = some r := h
 clear h
 by_cases c4 : ([] : List ByteArray).length + l0.length < 8796093022208
 ·rw [if_pos c4] at H
  have LMc4 := Aside0.mk c4
  clear c4
  obtain ⟨y210, hy210⟩ : ∃ y_ : List ByteArray, y_ = (([] : List ByteArray) ++ l0) := ⟨_, rfl⟩
  replace H : ((selvagelaw17_twin.f k l1).bind fun t213 => ((apply_Apply.f k y210 t213 a2).bind fun bt216 => ((selvageref17_Apply.f k l0 l1 a2).bind fun bt226 => ((selvagelaw17_same.f k bt216.1 bt226.1).bind fun t236 => (if t236 = true then ((selvagelaw17_num.f bt216.2.2.2).bind fun t237 => (if t237 = bt226.2.2.2 then (if (bt216.2.1.length : Int) = (bt226.2.1.length : Int) then (if (bt216.2.2.1.length : Int) = (bt226.2.2.1.length : Int) then ((selvagelaw17_same.f k y210 l0).bind fun t238 => (if t238 = true then ((selvagelaw17_sameHunks.f k t213 l1).bind fun t239 => (selvagelaw17_ApplyApplies.j0 k bt216.2.1 bt216.2.2.1 bt226.2.1 bt226.2.2.1 (!t239))) else (selvagelaw17_ApplyApplies.j0 k bt216.2.1 bt216.2.2.1 bt226.2.1 bt226.2.2.1 true))) else (selvagelaw17_ApplyApplies.j0 k bt216.2.1 bt216.2.2.1 bt226.2.1 bt226.2.2.1 true)) else (selvagelaw17_ApplyApplies.j0 k bt216.2.1 bt216.2.2.1 bt226.2.1 bt226.2.2.1 true)) else (selvagelaw17_ApplyApplies.j0 k bt216.2.1 bt216.2.2.1 bt226.2.1 bt226.2.2.1 true))) else (selvagelaw17_ApplyApplies.j0 k bt216.2.1 bt216.2.2.1 bt226.2.1 bt226.2.2.1 true)))))) = some r := by first | (rw [hy210]; with_reducible exact H) | (have H2_ := (Option.bind_some _ _).symm.trans H; rw [hy210]; with_reducible exact H2_) | (have H2_ := (Option.bind_some _ _).symm.trans H; with_reducible exact H2_) | with_reducible exact H | (rw [hy210]; exact H) | exact H
  have Ny210 := Aside0.mk hy210
  clear hy210
  replace H := Option.bind_eq_some_iff.mp H
  obtain ⟨t213, A50, H⟩ := H
  replace H : ((apply_Apply.f k y210 t213 a2).bind fun bt216 => ((selvageref17_Apply.f k l0 l1 a2).bind fun bt226 => ((selvagelaw17_same.f k bt216.1 bt226.1).bind fun t236 => (if t236 = true then ((selvagelaw17_num.f bt216.2.2.2).bind fun t237 => (if t237 = bt226.2.2.2 then (if (bt216.2.1.length : Int) = (bt226.2.1.length : Int) then (if (bt216.2.2.1.length : Int) = (bt226.2.2.1.length : Int) then ((selvagelaw17_same.f k y210 l0).bind fun t238 => (if t238 = true then ((selvagelaw17_sameHunks.f k t213 l1).bind fun t239 => (selvagelaw17_ApplyApplies.j0 k bt216.2.1 bt216.2.2.1 bt226.2.1 bt226.2.2.1 (!t239))) else (selvagelaw17_ApplyApplies.j0 k bt216.2.1 bt216.2.2.1 bt226.2.1 bt226.2.2.1 true))) else (selvagelaw17_ApplyApplies.j0 k bt216.2.1 bt216.2.2.1 bt226.2.1 bt226.2.2.1 true)) else (selvagelaw17_ApplyApplies.j0 k bt216.2.1 bt216.2.2.1 bt226.2.1 bt226.2.2.1 true)) else (selvagelaw17_ApplyApplies.j0 k bt216.2.1 bt216.2.2.1 bt226.2.1 bt226.2.2.1 true))) else (selvagelaw17_ApplyApplies.j0 k bt216.2.1 bt216.2.2.1 bt226.2.1 bt226.2.2.1 true))))) = some r := H
  have A5 := Aside0.mk A50
  clear A50
  replace H := Option.bind_eq_some_iff.mp H
  obtain ⟨⟨t216, t217, t218, t219⟩, A60, H⟩ := H
  replace H : ((selvageref17_Apply.f k l0 l1 a2).bind fun bt226 => ((selvagelaw17_same.f k t216 bt226.1).bind fun t236 => (if t236 = true then ((selvagelaw17_num.f t219).bind fun t237 => (if t237 = bt226.2.2.2 then (if (t217.length : Int) = (bt226.2.1.length : Int) then (if (t218.length : Int) = (bt226.2.2.1.length : Int) then ((selvagelaw17_same.f k y210 l0).bind fun t238 => (if t238 = true then ((selvagelaw17_sameHunks.f k t213 l1).bind fun t239 => (selvagelaw17_ApplyApplies.j0 k t217 t218 bt226.2.1 bt226.2.2.1 (!t239))) else (selvagelaw17_ApplyApplies.j0 k t217 t218 bt226.2.1 bt226.2.2.1 true))) else (selvagelaw17_ApplyApplies.j0 k t217 t218 bt226.2.1 bt226.2.2.1 true)) else (selvagelaw17_ApplyApplies.j0 k t217 t218 bt226.2.1 bt226.2.2.1 true)) else (selvagelaw17_ApplyApplies.j0 k t217 t218 bt226.2.1 bt226.2.2.1 true))) else (selvagelaw17_ApplyApplies.j0 k t217 t218 bt226.2.1 bt226.2.2.1 true)))) = some r := H
  have A6 := Aside0.mk A60
  clear A60
  replace H := Option.bind_eq_some_iff.mp H
  obtain ⟨⟨t226, t227, t228, t229⟩, A70, H⟩ := H
  replace H : ((selvagelaw17_same.f k t216 t226).bind fun t236 => (if t236 = true then ((selvagelaw17_num.f t219).bind fun t237 => (if t237 = t229 then (if (t217.length : Int) = (t227.length : Int) then (if (t218.length : Int) = (t228.length : Int) then ((selvagelaw17_same.f k y210 l0).bind fun t238 => (if t238 = true then ((selvagelaw17_sameHunks.f k t213 l1).bind fun t239 => (selvagelaw17_ApplyApplies.j0 k t217 t218 t227 t228 (!t239))) else (selvagelaw17_ApplyApplies.j0 k t217 t218 t227 t228 true))) else (selvagelaw17_ApplyApplies.j0 k t217 t218 t227 t228 true)) else (selvagelaw17_ApplyApplies.j0 k t217 t218 t227 t228 true)) else (selvagelaw17_ApplyApplies.j0 k t217 t218 t227 t228 true))) else (selvagelaw17_ApplyApplies.j0 k t217 t218 t227 t228 true))) = some r := H
  have A7 := Aside0.mk A70
  clear A70
  have HC8 := Aside0.mk H
  clear H
  go_enter Tryd.func3, Tryd.ntmps3
  try simp only [List.append_eq, List.cons_append, List.nil_append]
  go_upto_region 6 with (first | ((with_reducible refine gate_builtin (b := .append) (xs := #[.tmp 19, .tmp 20]) rfl ?_); (try (refine gate_guard (by rfl) ?_; dsimp only)); at_builtin; refine Kd.R_append_rows Kd.string (w0 := w) w.heap.size rfl (.tmp 19) (.tmp 20) 22 9 (.string ⟨#[]⟩) 16 rfl Tryd.underlying22 info9 rfl (by decide) (by omega) (.slice none 0 0) ([] : List ByteArray) l0 _ _ _ (fun _ => True) (fun _ => False) rfl rfl ?aO ?aR (fun _ _ h => h) (fun _ h => h.elim) ?aF ?aB ?aS ?aL ?_; (case aR => repeat (first | exact HR0.out | (with_reducible refine Kd.C_alloc ?_ _) | (with_reducible refine Kd.C_drewN ?_ _) | (with_reducible refine Kd.C_drew ?_))); (case aB => exact belNow); (case aF => exact (fun _ _ => trivial)); (case aO => exact ((Kd.R_nil _ _ _ _ (fun _ => True)))); (case aS => exact (below_size belNow)); (case aL => have := LMc4.out; omega); intro v211 w9 ho hb hg hat; rw [← Ny210.out] at ho; have n0_ := Aside0.mk (hb); have n1_ := Aside0.mk (ho); clear HB; have HB := n0_; have HO212 := n1_; clear n0_ n1_; clear ho hb hg hat) | (go_at_call 5; (with_reducible refine (selvagelaw17_twin.calls k _ _ l1 t213 _ ?side1 ?side2 A5.out).mono ?_); (case side1 => repeat (first | exact (Kd.C_below HR1.out HB.out) | (with_reducible refine Kd.C_alloc ?_ _) | (with_reducible refine Kd.C_drewN ?_ _) | (with_reducible refine Kd.C_drew ?_))); (case side2 => exact HC1.out); rintro e w10 ⟨v214, rfl, ho0, hb⟩; have n0_ := Aside0.mk (Kd.R_below (kdUp HO212.out) hb); have n1_ := Aside0.mk (Kd.S_lower ho0 (below_size belNow)); have n2_ := Aside0.mk (below_step belNow hb); clear HO212; clear HB; have HO212 := n0_; have HO215 := n1_; have HB := n2_; clear n0_ n1_ n2_; (try clear hb); (try clear hb2); (try clear hk); (try clear hi); (try clear ho0); obtain ⟨Ao11, co11, eo11⟩ := Kd.R_slice HO212.out; subst eo11; obtain ⟨Ao12, co12, eo12⟩ := Kd.S_slice HO215.out; subst eo12) | (go_at_call 6; (with_reducible refine (apply_Apply.calls k _ _ y210 _ _ t213 a2 t216 t217 t218 t219 _ ?side1 ?side2 ?side3 ?side4 A6.out).mono ?_); (case side1 => repeat (first | exact (Kd.R_reads' HO212.out).2.2 | (with_reducible refine Kd.C_alloc ?_ _) | (with_reducible refine Kd.C_drewN ?_ _) | (with_reducible refine Kd.C_drew ?_))); (case side2 => exact (Kd.R_reads' HO212.out).2.1); (case side3 => repeat (first | exact (Kd.S_reads' HO215.out).2.2 | (with_reducible refine Kd.C_alloc ?_ _) | (with_reducible refine Kd.C_drewN ?_ _) | (with_reducible refine Kd.C_drew ?_))); (case side4 => exact (Kd.S_reads' HO215.out).2.1); rintro e w13 ⟨v220, v222, v224, rfl, ho0, ho1, ho2, hb⟩; have n0_ := Aside0.mk (Kd.R_elder' (kdUp HO212.out) (Kd.R_base ho0) hb); have n1_ := Aside0.mk (Kd.S_below (by (with_reducible repeat (first | apply Kd.S_alloc | apply Kd.S_drewN | apply Kd.S_drew)); exact HO215.out) hb); have n2_ := Aside0.mk (Kd.R_lower (Kd.R_new' ho0 (Kd.R_lt (kdUp HO212.out))) (below_size belNow)); have n3_ := Aside0.mk (Kd.R_lower ho1 (below_size belNow)); have n4_ := Aside0.mk (Kd.R_lower ho2 (below_size belNow)); have n5_ := Aside0.mk (below_step belNow hb); clear HO212; clear HO215; clear HB; have HO212 := n0_; have HO215 := n1_; have HO221 := n2_; have HO223 := n3_; have HO225 := n4_; have HB := n5_; clear n0_ n1_ n2_ n3_ n4_ n5_; (try clear hb); (try clear hb2); (try clear hk); (try clear hi); (try clear ho0); (try clear ho1); (try clear ho2); (try simp only [errW_none, errW_some])) | (go_at_call 7; (with_reducible refine (selvageref17_Apply.calls k _ _ l0 _ _ l1 a2 t226 t227 t228 t229 _ ?side1 ?side2 ?side3 ?side4 A7.out).mono ?_); (case side1 => repeat (first | exact (Kd.C_below HR0.out HB.out) | (with_reducible refine Kd.C_alloc ?_ _) | (with_reducible refine Kd.C_drewN ?_ _) | (with_reducible refine Kd.C_drew ?_))); (case side2 => exact HC0.out); (case side3 => repeat (first | exact (Kd.C_below HR1.out HB.out) | (with_reducible refine Kd.C_alloc ?_ _) | (with_reducible refine Kd.C_drewN ?_ _) | (with_reducible refine Kd.C_drew ?_))); (case side4 => exact HC1.out); rintro e w14 ⟨v230, v232, v234, rfl, ho0, ho1, ho2, hb⟩; have n0_ := Aside0.mk (Kd.R_elder' (kdUp HO212.out) (Kd.R_base ho0) hb); have n1_ := Aside0.mk (Kd.S_below (by (with_reducible repeat (first | apply Kd.S_alloc | apply Kd.S_drewN | apply Kd.S_drew)); exact HO215.out) hb); have n2_ := Aside0.mk (Kd.R_elder' (kdUp HO221.out) (Kd.R_base ho0) hb); have n3_ := Aside0.mk (Kd.R_below (kdUp HO223.out) hb); have n4_ := Aside0.mk (Kd.R_elder' (kdUp HO225.out) (Kd.R_base ho2) hb); have n5_ := Aside0.mk (Kd.R_lower (Kd.R_new' (Kd.R_new' ho0 (Kd.R_lt (kdUp HO212.out))) (Kd.R_lt (kdUp HO221.out))) (below_size belNow)); have n6_ := Aside0.mk (Kd.R_lower ho1 (below_size belNow)); have n7_ := Aside0.mk (Kd.R_lower (Kd.R_new' ho2 (Kd.R_lt (kdUp HO225.out))) (below_size belNow)); have n8_ := Aside0.mk (below_step belNow hb); clear HO212; clear HO215; clear HO221; clear HO223; clear HO225; clear HB; have HO212 := n0_; have HO215 := n1_; have HO221 := n2_; have HO223 := n3_; have HO225 := n4_; have HO231 := n5_; have HO233 := n6_; have HO235 := n7_; have HB := n8_; clear n0_ n1_ n2_ n3_ n4_ n5_ n6_ n7_ n8_; (try clear hb); (try clear hb2); (try clear hk); (try clear hi); (try clear ho0); (try clear ho1); (try clear ho2)))
  repeat (go_quiet (first | ((with_reducible refine gate_builtin (b := .append) (xs := #[.tmp 19, .tmp 20]) rfl ?_); (try (refine gate_guard (by rfl) ?_; dsimp only)); at_builtin; refine Kd.R_append_rows Kd.string (w0 := w) w.heap.size rfl (.tmp 19) (.tmp 20) 22 9 (.string ⟨#[]⟩) 16 rfl Tryd.underlying22 info9 rfl (by decide) (by omega) (.slice none 0 0) ([] : List ByteArray) l0 _ _ _ (fun _ => True) (fun _ => False) rfl rfl ?aO ?aR (fun _ _ h => h) (fun _ h => h.elim) ?aF ?aB ?aS ?aL ?_; (case aR => repeat (first | exact HR0.out | (with_reducible refine Kd.C_alloc ?_ _) | (with_reducible refine Kd.C_drewN ?_ _) | (with_reducible refine Kd.C_drew ?_))); (case aB => exact belNow); (case aF => exact (fun _ _ => trivial)); (case aO => exact ((Kd.R_nil _ _ _ _ (fun _ => True)))); (case aS => exact (below_size belNow)); (case aL => have := LMc4.out; omega); intro v211 w9 ho hb hg hat; rw [← Ny210.out] at ho; have n0_ := Aside0.mk (hb); have n1_ := Aside0.mk (ho); clear HB; have HB := n0_; have HO212 := n1_; clear n0_ n1_; clear ho hb hg hat) | (go_at_call 5; (with_reducible refine (selvagelaw17_twin.calls k _ _ l1 t213 _ ?side1 ?side2 A5.out).mono ?_); (case side1 => repeat (first | exact (Kd.C_below HR1.out HB.out) | (with_reducible refine Kd.C_alloc ?_ _) | (with_reducible refine Kd.C_drewN ?_ _) | (with_reducible refine Kd.C_drew ?_))); (case side2 => exact HC1.out); rintro e w10 ⟨v214, rfl, ho0, hb⟩; have n0_ := Aside0.mk (Kd.R_below (kdUp HO212.out) hb); have n1_ := Aside0.mk (Kd.S_lower ho0 (below_size belNow)); have n2_ := Aside0.mk (below_step belNow hb); clear HO212; clear HB; have HO212 := n0_; have HO215 := n1_; have HB := n2_; clear n0_ n1_ n2_; (try clear hb); (try clear hb2); (try clear hk); (try clear hi); (try clear ho0); obtain ⟨Ao11, co11, eo11⟩ := Kd.R_slice HO212.out; subst eo11; obtain ⟨Ao12, co12, eo12⟩ := Kd.S_slice HO215.out; subst eo12) | (go_at_call 6; (with_reducible refine (apply_Apply.calls k _ _ y210 _ _ t213 a2 t216 t217 t218 t219 _ ?side1 ?side2 ?side3 ?side4 A6.out).mono ?_); (case side1 => repeat (first | exact (Kd.R_reads' HO212.out).2.2 | (with_reducible refine Kd.C_alloc ?_ _) | (with_reducible refine Kd.C_drewN ?_ _) | (with_reducible refine Kd.C_drew ?_))); (case side2 => exact (Kd.R_reads' HO212.out).2.1); (case side3 => repeat (first | exact (Kd.S_reads' HO215.out).2.2 | (with_reducible refine Kd.C_alloc ?_ _) | (with_reducible refine Kd.C_drewN ?_ _) | (with_reducible refine Kd.C_drew ?_))); (case side4 => exact (Kd.S_reads' HO215.out).2.1); rintro e w13 ⟨v220, v222, v224, rfl, ho0, ho1, ho2, hb⟩; have n0_ := Aside0.mk (Kd.R_elder' (kdUp HO212.out) (Kd.R_base ho0) hb); have n1_ := Aside0.mk (Kd.S_below (by (with_reducible repeat (first | apply Kd.S_alloc | apply Kd.S_drewN | apply Kd.S_drew)); exact HO215.out) hb); have n2_ := Aside0.mk (Kd.R_lower (Kd.R_new' ho0 (Kd.R_lt (kdUp HO212.out))) (below_size belNow)); have n3_ := Aside0.mk (Kd.R_lower ho1 (below_size belNow)); have n4_ := Aside0.mk (Kd.R_lower ho2 (below_size belNow)); have n5_ := Aside0.mk (below_step belNow hb); clear HO212; clear HO215; clear HB; have HO212 := n0_; have HO215 := n1_; have HO221 := n2_; have HO223 := n3_; have HO225 := n4_; have HB := n5_; clear n0_ n1_ n2_ n3_ n4_ n5_; (try clear hb); (try clear hb2); (try clear hk); (try clear hi); (try clear ho0); (try clear ho1); (try clear ho2); (try simp only [errW_none, errW_some])) | (go_at_call 7; (with_reducible refine (selvageref17_Apply.calls k _ _ l0 _ _ l1 a2 t226 t227 t228 t229 _ ?side1 ?side2 ?side3 ?side4 A7.out).mono ?_); (case side1 => repeat (first | exact (Kd.C_below HR0.out HB.out) | (with_reducible refine Kd.C_alloc ?_ _) | (with_reducible refine Kd.C_drewN ?_ _) | (with_reducible refine Kd.C_drew ?_))); (case side2 => exact HC0.out); (case side3 => repeat (first | exact (Kd.C_below HR1.out HB.out) | (with_reducible refine Kd.C_alloc ?_ _) | (with_reducible refine Kd.C_drewN ?_ _) | (with_reducible refine Kd.C_drew ?_))); (case side4 => exact HC1.out); rintro e w14 ⟨v230, v232, v234, rfl, ho0, ho1, ho2, hb⟩; have n0_ := Aside0.mk (Kd.R_elder' (kdUp HO212.out) (Kd.R_base ho0) hb); have n1_ := Aside0.mk (Kd.S_below (by (with_reducible repeat (first | apply Kd.S_alloc | apply Kd.S_drewN | apply Kd.S_drew)); exact HO215.out) hb); have n2_ := Aside0.mk (Kd.R_elder' (kdUp HO221.out) (Kd.R_base ho0) hb); have n3_ := Aside0.mk (Kd.R_below (kdUp HO223.out) hb); have n4_ := Aside0.mk (Kd.R_elder' (kdUp HO225.out) (Kd.R_base ho2) hb); have n5_ := Aside0.mk (Kd.R_lower (Kd.R_new' (Kd.R_new' ho0 (Kd.R_lt (kdUp HO212.out))) (Kd.R_lt (kdUp HO221.out))) (below_size belNow)); have n6_ := Aside0.mk (Kd.R_lower ho1 (below_size belNow)); have n7_ := Aside0.mk (Kd.R_lower (Kd.R_new' ho2 (Kd.R_lt (kdUp HO225.out))) (below_size belNow)); have n8_ := Aside0.mk (below_step belNow hb); clear HO212; clear HO215; clear HO221; clear HO223; clear HO225; clear HB; have HO212 := n0_; have HO215 := n1_; have HO221 := n2_; have HO223 := n3_; have HO225 := n4_; have HO231 := n5_; have HO233 := n6_; have HO235 := n7_; have HB := n8_; clear n0_ n1_ n2_ n3_ n4_ n5_ n6_ n7_ n8_; (try clear hb); (try clear hb2); (try clear hk); (try clear hi); (try clear ho0); (try clear ho1); (try clear ho2))); go_upto_region 6 with (first | ((with_reducible refine gate_builtin (b := .append) (xs := #[.tmp 19, .tmp 20]) rfl ?_); (try (refine gate_guard (by rfl) ?_; dsimp only)); at_builtin; refine Kd.R_append_rows Kd.string (w0 := w) w.heap.size rfl (.tmp 19) (.tmp 20) 22 9 (.string ⟨#[]⟩) 16 rfl Tryd.underlying22 info9 rfl (by decide) (by omega) (.slice none 0 0) ([] : List ByteArray) l0 _ _ _ (fun _ => True) (fun _ => False) rfl rfl ?aO ?aR (fun _ _ h => h) (fun _ h => h.elim) ?aF ?aB ?aS ?aL ?_; (case aR => repeat (first | exact HR0.out | (with_reducible refine Kd.C_alloc ?_ _) | (with_reducible refine Kd.C_drewN ?_ _) | (with_reducible refine Kd.C_drew ?_))); (case aB => exact belNow); (case aF => exact (fun _ _ => trivial)); (case aO => exact ((Kd.R_nil _ _ _ _ (fun _ => True)))); (case aS => exact (below_size belNow)); (case aL => have := LMc4.out; omega); intro v211 w9 ho hb hg hat; rw [← Ny210.out] at ho; have n0_ := Aside0.mk (hb); have n1_ := Aside0.mk (ho); clear HB; have HB := n0_; have HO212 := n1_; clear n0_ n1_; clear ho hb hg hat) | (go_at_call 5; (with_reducible refine (selvagelaw17_twin.calls k _ _ l1 t213 _ ?side1 ?side2 A5.out).mono ?_); (case side1 => repeat (first | exact (Kd.C_below HR1.out HB.out) | (with_reducible refine Kd.C_alloc ?_ _) | (with_reducible refine Kd.C_drewN ?_ _) | (with_reducible refine Kd.C_drew ?_))); (case side2 => exact HC1.out); rintro e w10 ⟨v214, rfl, ho0, hb⟩; have n0_ := Aside0.mk (Kd.R_below (kdUp HO212.out) hb); have n1_ := Aside0.mk (Kd.S_lower ho0 (below_size belNow)); have n2_ := Aside0.mk (below_step belNow hb); clear HO212; clear HB; have HO212 := n0_; have HO215 := n1_; have HB := n2_; clear n0_ n1_ n2_; (try clear hb); (try clear hb2); (try clear hk); (try clear hi); (try clear ho0); obtain ⟨Ao11, co11, eo11⟩ := Kd.R_slice HO212.out; subst eo11; obtain ⟨Ao12, co12, eo12⟩ := Kd.S_slice HO215.out; subst eo12) | (go_at_call 6; (with_reducible refine (apply_Apply.calls k _ _ y210 _ _ t213 a2 t216 t217 t218 t219 _ ?side1 ?side2 ?side3 ?side4 A6.out).mono ?_); (case side1 => repeat (first | exact (Kd.R_reads' HO212.out).2.2 | (with_reducible refine Kd.C_alloc ?_ _) | (with_reducible refine Kd.C_drewN ?_ _) | (with_reducible refine Kd.C_drew ?_))); (case side2 => exact (Kd.R_reads' HO212.out).2.1); (case side3 => repeat (first | exact (Kd.S_reads' HO215.out).2.2 | (with_reducible refine Kd.C_alloc ?_ _) | (with_reducible refine Kd.C_drewN ?_ _) | (with_reducible refine Kd.C_drew ?_))); (case side4 => exact (Kd.S_reads' HO215.out).2.1); rintro e w13 ⟨v220, v222, v224, rfl, ho0, ho1, ho2, hb⟩; have n0_ := Aside0.mk (Kd.R_elder' (kdUp HO212.out) (Kd.R_base ho0) hb); have n1_ := Aside0.mk (Kd.S_below (by (with_reducible repeat (first | apply Kd.S_alloc | apply Kd.S_drewN | apply Kd.S_drew)); exact HO215.out) hb); have n2_ := Aside0.mk (Kd.R_lower (Kd.R_new' ho0 (Kd.R_lt (kdUp HO212.out))) (below_size belNow)); have n3_ := Aside0.mk (Kd.R_lower ho1 (below_size belNow)); have n4_ := Aside0.mk (Kd.R_lower ho2 (below_size belNow)); have n5_ := Aside0.mk (below_step belNow hb); clear HO212; clear HO215; clear HB; have HO212 := n0_; have HO215 := n1_; have HO221 := n2_; have HO223 := n3_; have HO225 := n4_; have HB := n5_; clear n0_ n1_ n2_ n3_ n4_ n5_; (try clear hb); (try clear hb2); (try clear hk); (try clear hi); (try clear ho0); (try clear ho1); (try clear ho2); (try simp only [errW_none, errW_some])) | (go_at_call 7; (with_reducible refine (selvageref17_Apply.calls k _ _ l0 _ _ l1 a2 t226 t227 t228 t229 _ ?side1 ?side2 ?side3 ?side4 A7.out).mono ?_); (case side1 => repeat (first | exact (Kd.C_below HR0.out HB.out) | (with_reducible refine Kd.C_alloc ?_ _) | (with_reducible refine Kd.C_drewN ?_ _) | (with_reducible refine Kd.C_drew ?_))); (case side2 => exact HC0.out); (case side3 => repeat (first | exact (Kd.C_below HR1.out HB.out) | (with_reducible refine Kd.C_alloc ?_ _) | (with_reducible refine Kd.C_drewN ?_ _) | (with_reducible refine Kd.C_drew ?_))); (case side4 => exact HC1.out); rintro e w14 ⟨v230, v232, v234, rfl, ho0, ho1, ho2, hb⟩; have n0_ := Aside0.mk (Kd.R_elder' (kdUp HO212.out) (Kd.R_base ho0) hb); have n1_ := Aside0.mk (Kd.S_below (by (with_reducible repeat (first | apply Kd.S_alloc | apply Kd.S_drewN | apply Kd.S_drew)); exact HO215.out) hb); have n2_ := Aside0.mk (Kd.R_elder' (kdUp HO221.out) (Kd.R_base ho0) hb); have n3_ := Aside0.mk (Kd.R_below (kdUp HO223.out) hb); have n4_ := Aside0.mk (Kd.R_elder' (kdUp HO225.out) (Kd.R_base ho2) hb); have n5_ := Aside0.mk (Kd.R_lower (Kd.R_new' (Kd.R_new' ho0 (Kd.R_lt (kdUp HO212.out))) (Kd.R_lt (kdUp HO221.out))) (below_size belNow)); have n6_ := Aside0.mk (Kd.R_lower ho1 (below_size belNow)); have n7_ := Aside0.mk (Kd.R_lower (Kd.R_new' ho2 (Kd.R_lt (kdUp HO225.out))) (below_size belNow)); have n8_ := Aside0.mk (below_step belNow hb); clear HO212; clear HO215; clear HO221; clear HO223; clear HO225; clear HB; have HO212 := n0_; have HO215 := n1_; have HO221 := n2_; have HO223 := n3_; have HO225 := n4_; have HO231 := n5_; have HO233 := n6_; have HO235 := n7_; have HB := n8_; clear n0_ n1_ n2_ n3_ n4_ n5_ n6_ n7_ n8_; (try clear hb); (try clear hb2); (try clear hk); (try clear hi); (try clear ho0); (try clear ho1); (try clear ho2))))
  (try simp only [Act.put, List.setIfInBounds_toArray, List.set_cons_zero, List.set_cons_succ])
  go_cut [77] (fun v77 wc => ∃ (kq : Nat) (x77_7 : Bool), v77 = .bool x77_7 ∧ Aside0 (selvagelaw17_ApplyApplies.j0 kq t217 t218 t227 t228 x77_7 = some r) ∧ Aside0 (kq ≤ k) ∧ Aside0 (Kd.R k38 38 wc w.heap.size (fun _ => True) v222 t217) ∧ Aside0 (Kd.R (Kd.int .i64) 3 wc w.heap.size (fun k_ => some k_ ≠ (v234 : Value).ownBlock) v224 t218) ∧ Aside0 (Kd.R k39 39 wc w.heap.size (fun _ => True) v232 t227) ∧ Aside0 (Kd.R (Kd.int .i64) 3 wc w.heap.size (fun k_ => some k_ ≠ (v224 : Value).ownBlock) v234 t228) ∧ Aside0 (Below w.heap.size w wc))
  case first =>
   have H := HC8.out
   clear HC8
   replace H := Option.bind_eq_some_iff.mp H
   obtain ⟨t236, A150, H⟩ := H
   replace H : (if t236 = true then ((selvagelaw17_num.f t219).bind fun t237 => (if t237 = t229 then (if (t217.length : Int) = (t227.length : Int) then (if (t218.length : Int) = (t228.length : Int) then ((selvagelaw17_same.f k y210 l0).bind fun t238 => (if t238 = true then ((selvagelaw17_sameHunks.f k t213 l1).bind fun t239 => (selvagelaw17_ApplyApplies.j0 k t217 t218 t227 t228 (!t239))) else (selvagelaw17_ApplyApplies.j0 k t217 t218 t227 t228 true))) else (selvagelaw17_ApplyApplies.j0 k t217 t218 t227 t228 true)) else (selvagelaw17_ApplyApplies.j0 k t217 t218 t227 t228 true)) else (selvagelaw17_ApplyApplies.j0 k t217 t218 t227 t228 true))) else (selvagelaw17_ApplyApplies.j0 k t217 t218 t227 t228 true)) = some r := H
   have A15 := Aside0.mk A150
   clear A150
   by_cases c16 : t236 = true
   ·subst c16
    have H1 : ((selvagelaw17_num.f t219).bind fun t237 => (if t237 = t229 then (if (t217.length : Int) = (t227.length : Int) then (if (t218.length : Int) = (t228.length : Int) then ((selvagelaw17_same.f k y210 l0).bind fun t238 => (if t238 = true then ((selvagelaw17_sameHunks.f k t213 l1).bind fun t239 => (selvagelaw17_ApplyApplies.j0 k t217 t218 t227 t228 (!t239))) else (selvagelaw17_ApplyApplies.j0 k t217 t218 t227 t228 true))) else (selvagelaw17_ApplyApplies.j0 k t217 t218 t227 t228 true)) else (selvagelaw17_ApplyApplies.j0 k t217 t218 t227 t228 true)) else (selvagelaw17_ApplyApplies.j0 k t217 t218 t227 t228 true))) = some r := by rw [if_pos rfl] at H; exact H
    clear H
    have H := H1
    clear H1
    replace H := Option.bind_eq_some_iff.mp H
    obtain ⟨t237, A170, H⟩ := H
    replace H : (if t237 = t229 then (if (t217.length : Int) = (t227.length : Int) then (if (t218.length : Int) = (t228.length : Int) then ((selvagelaw17_same.f k y210 l0).bind fun t238 => (if t238 = true then ((selvagelaw17_sameHunks.f k t213 l1).bind fun t239 => (selvagelaw17_ApplyApplies.j0 k t217 t218 t227 t228 (!t239))) else (selvagelaw17_ApplyApplies.j0 k t217 t218 t227 t228 true))) else (selvagelaw17_ApplyApplies.j0 k t217 t218 t227 t228 true)) else (selvagelaw17_ApplyApplies.j0 k t217 t218 t227 t228 true)) else (selvagelaw17_ApplyApplies.j0 k t217 t218 t227 t228 true)) = some r := H
    have A17 := Aside0.mk A170
    clear A170
    by_cases c18 : t237 = t229
    ·rw [if_pos c18] at H
     have c18b0 : (t237 == t229) = true := beq_iff_eq.mpr c18
     have c18b1 : (t237 != t229) = false := bne_eq_false_iff_eq.mpr c18
     clear c18
     (first | rw [c18b0] | (simp only [i64_w, i32_w]; rw [c18b0]) | skip)
     by_cases c19 : (t217.length : Int) = (t227.length : Int)
     ·rw [if_pos c19] at H
      have c19b0 : ((t217.length : Int) == (t227.length : Int)) = true := beq_iff_eq.mpr c19
      have c19b1 : ((t217.length : Int) != (t227.length : Int)) = false := bne_eq_false_iff_eq.mpr c19
      have c19b2 : (t217.length == t227.length) = true := by first | simpa using c19 | (simp at c19 ⊢; omega)
      clear c19
      by_cases c20 : (t218.length : Int) = (t228.length : Int)
      ·rw [if_pos c20] at H
       have c20b0 : ((t218.length : Int) == (t228.length : Int)) = true := beq_iff_eq.mpr c20
       have c20b1 : ((t218.length : Int) != (t228.length : Int)) = false := bne_eq_false_iff_eq.mpr c20
       have c20b2 : (t218.length == t228.length) = true := by first | simpa using c20 | (simp at c20 ⊢; omega)
       clear c20
       replace H := Option.bind_eq_some_iff.mp H
       obtain ⟨t238, A210, H⟩ := H
       replace H : (if t238 = true then ((selvagelaw17_sameHunks.f k t213 l1).bind fun t239 => (selvagelaw17_ApplyApplies.j0 k t217 t218 t227 t228 (!t239))) else (selvagelaw17_ApplyApplies.j0 k t217 t218 t227 t228 true)) = some r := H
       have A21 := Aside0.mk A210
       clear A210
       by_cases c22 : t238 = true
       ·subst c22
        have H1 : ((selvagelaw17_sameHunks.f k t213 l1).bind fun t239 => (selvagelaw17_ApplyApplies.j0 k t217 t218 t227 t228 (!t239))) = some r := by rw [if_pos rfl] at H; exact H
        clear H
        have H := H1
        clear H1
        replace H := Option.bind_eq_some_iff.mp H
        obtain ⟨t239, A230, H⟩ := H
        replace H : (selvagelaw17_ApplyApplies.j0 k t217 t218 t227 t228 (!t239)) = some r := H
        have A23 := Aside0.mk A230
        clear A230
        have H' := Aside0.mk H
        clear H
        obtain ⟨Ao24, co24, eo24⟩ := Kd.R_slice HO221.out
        subst eo24
        obtain ⟨Ao25, co25, eo25⟩ := Kd.R_slice HO231.out
        subst eo25
        go_wp2_with (first | (go_at_call 8; (with_reducible refine (selvagelaw17_same.calls k _ _ t216 _ _ t226 true _ ?side1 ?side2 ?side3 ?side4 A15.out).mono ?_); (case side1 => repeat (first | exact (Kd.R_reads' HO221.out).2.2 | (with_reducible refine Kd.C_alloc ?_ _) | (with_reducible refine Kd.C_drewN ?_ _) | (with_reducible refine Kd.C_drew ?_))); (case side2 => exact (Kd.R_reads' HO221.out).2.1); (case side3 => repeat (first | exact (Kd.R_reads' HO231.out).2.2 | (with_reducible refine Kd.C_alloc ?_ _) | (with_reducible refine Kd.C_drewN ?_ _) | (with_reducible refine Kd.C_drew ?_))); (case side4 => exact (Kd.R_reads' HO231.out).2.1); rintro e w' ⟨rfl, ⟨nd, rfl⟩⟩; (try first | exact ⟨rfl, _, World.drewN_drewN _ _ _⟩ | exact ⟨rfl, _, Eq.trans (World.drewN_drewN _ _ _) (congrArg (World.drewN _) (Nat.add_assoc _ _ _))⟩); have CA17 := fun W (hG_ : Glob W) => selvagelaw17_num.calls t219 t237 W hG_ A17.out; try simp only [errW_none, errW_some] at CA17) | (go_at_call 9; (with_reducible refine (CA17 _ ?side1).mono ?_); (case side1 => exact Glob.below hGL belNow); rintro e w26 ⟨rfl, hb⟩; have n0_ := Aside0.mk (Kd.R_below (kdUp HO212.out) hb); have n1_ := Aside0.mk (Kd.S_below (by (with_reducible repeat (first | apply Kd.S_alloc | apply Kd.S_drewN | apply Kd.S_drew)); exact HO215.out) hb); have n2_ := Aside0.mk (Kd.R_below (kdUp HO221.out) hb); have n3_ := Aside0.mk (Kd.R_below (kdUp HO223.out) hb); have n4_ := Aside0.mk (Kd.R_below (kdUp HO225.out) hb); have n5_ := Aside0.mk (Kd.R_below (kdUp HO231.out) hb); have n6_ := Aside0.mk (Kd.R_below (kdUp HO233.out) hb); have n7_ := Aside0.mk (Kd.R_below (kdUp HO235.out) hb); have n8_ := Aside0.mk (below_step belNow hb); clear HO212; clear HO215; clear HO221; clear HO223; clear HO225; clear HO231; clear HO233; clear HO235; clear HB; have HO212 := n0_; have HO215 := n1_; have HO221 := n2_; have HO223 := n3_; have HO225 := n4_; have HO231 := n5_; have HO233 := n6_; have HO235 := n7_; have HB := n8_; clear n0_ n1_ n2_ n3_ n4_ n5_ n6_ n7_ n8_; (try clear hb); (try clear hb2); (try clear hk); (try clear hi); obtain ⟨Ao27, co27, eo27⟩ := Kd.R_slice HO223.out; subst eo27; obtain ⟨Ao28, co28, eo28⟩ := Kd.R_slice HO233.out; subst eo28; obtain ⟨Ao29, co29, eo29⟩ := Kd.R_slice HO225.out; subst eo29; obtain ⟨Ao30, co30, eo30⟩ := Kd.R_slice HO235.out; subst eo30) | (go_at_call 8; (with_reducible refine (selvagelaw17_same.calls k _ _ y210 _ _ l0 true _ ?side1 ?side2 ?side3 ?side4 A21.out).mono ?_); (case side1 => repeat (first | exact (Kd.R_reads' HO212.out).2.2 | (with_reducible refine Kd.C_alloc ?_ _) | (with_reducible refine Kd.C_drewN ?_ _) | (with_reducible refine Kd.C_drew ?_))); (case side2 => exact (Kd.R_reads' HO212.out).2.1); (case side3 => repeat (first | exact (Kd.C_below HR0.out HB.out) | (with_reducible refine Kd.C_alloc ?_ _) | (with_reducible refine Kd.C_drewN ?_ _) | (with_reducible refine Kd.C_drew ?_))); (case side4 => exact HC0.out); rintro e w' ⟨rfl, ⟨nd, rfl⟩⟩; (try first | exact ⟨rfl, _, World.drewN_drewN _ _ _⟩ | exact ⟨rfl, _, Eq.trans (World.drewN_drewN _ _ _) (congrArg (World.drewN _) (Nat.add_assoc _ _ _))⟩)) | (go_at_call 10; (with_reducible refine (selvagelaw17_sameHunks.calls k _ _ t213 _ _ l1 t239 _ ?side1 ?side2 ?side3 ?side4 A23.out).mono ?_); (case side1 => repeat (first | exact (Kd.S_reads' HO215.out).2.2 | (with_reducible refine Kd.C_alloc ?_ _) | (with_reducible refine Kd.C_drewN ?_ _) | (with_reducible refine Kd.C_drew ?_))); (case side2 => exact (Kd.S_reads' HO215.out).2.1); (case side3 => repeat (first | exact (Kd.C_below HR1.out belNow) | (with_reducible refine Kd.C_alloc ?_ _) | (with_reducible refine Kd.C_drewN ?_ _) | (with_reducible refine Kd.C_drew ?_))); (case side4 => exact HC1.out); rintro e w31 ⟨rfl, hb⟩; have n0_ := Aside0.mk (Kd.R_below (kdUp HO212.out) hb); have n1_ := Aside0.mk (Kd.S_below (by (with_reducible repeat (first | apply Kd.S_alloc | apply Kd.S_drewN | apply Kd.S_drew)); exact HO215.out) hb); have n2_ := Aside0.mk (Kd.R_below (kdUp HO221.out) hb); have n3_ := Aside0.mk (Kd.R_below (kdUp HO223.out) hb); have n4_ := Aside0.mk (Kd.R_below (kdUp HO225.out) hb); have n5_ := Aside0.mk (Kd.R_below (kdUp HO231.out) hb); have n6_ := Aside0.mk (Kd.R_below (kdUp HO233.out) hb); have n7_ := Aside0.mk (Kd.R_below (kdUp HO235.out) hb); have n8_ := Aside0.mk (below_step belNow hb); clear HO212; clear HO215; clear HO221; clear HO223; clear HO225; clear HO231; clear HO233; clear HO235; clear HB; have HO212 := n0_; have HO215 := n1_; have HO221 := n2_; have HO223 := n3_; have HO225 := n4_; have HO231 := n5_; have HO233 := n6_; have HO235 := n7_; have HB := n8_; clear n0_ n1_ n2_ n3_ n4_ n5_ n6_ n7_ n8_; (try clear hb); (try clear hb2); (try clear hk); (try clear hi)))
        repeat (go_quiet (first | (go_at_call 8; (with_reducible refine (selvagelaw17_same.calls k _ _ t216 _ _ t226 true _ ?side1 ?side2 ?side3 ?side4 A15.out).mono ?_); (case side1 => repeat (first | exact (Kd.R_reads' HO221.out).2.2 | (with_reducible refine Kd.C_alloc ?_ _) | (with_reducible refine Kd.C_drewN ?_ _) | (with_reducible refine Kd.C_drew ?_))); (case side2 => exact (Kd.R_reads' HO221.out).2.1); (case side3 => repeat (first | exact (Kd.R_reads' HO231.out).2.2 | (with_reducible refine Kd.C_alloc ?_ _) | (with_reducible refine Kd.C_drewN ?_ _) | (with_reducible refine Kd.C_drew ?_))); (case side4 => exact (Kd.R_reads' HO231.out).2.1); rintro e w' ⟨rfl, ⟨nd, rfl⟩⟩; (try first | exact ⟨rfl, _, World.drewN_drewN _ _ _⟩ | exact ⟨rfl, _, Eq.trans (World.drewN_drewN _ _ _) (congrArg (World.drewN _) (Nat.add_assoc _ _ _))⟩); have CA17 := fun W (hG_ : Glob W) => selvagelaw17_num.calls t219 t237 W hG_ A17.out; try simp only [errW_none, errW_some] at CA17) | (go_at_call 9; (with_reducible refine (CA17 _ ?side1).mono ?_); (case side1 => exact Glob.below hGL belNow); rintro e w26 ⟨rfl, hb⟩; have n0_ := Aside0.mk (Kd.R_below (kdUp HO212.out) hb); have n1_ := Aside0.mk (Kd.S_below (by (with_reducible repeat (first | apply Kd.S_alloc | apply Kd.S_drewN | apply Kd.S_drew)); exact HO215.out) hb); have n2_ := Aside0.mk (Kd.R_below (kdUp HO221.out) hb); have n3_ := Aside0.mk (Kd.R_below (kdUp HO223.out) hb); have n4_ := Aside0.mk (Kd.R_below (kdUp HO225.out) hb); have n5_ := Aside0.mk (Kd.R_below (kdUp HO231.out) hb); have n6_ := Aside0.mk (Kd.R_below (kdUp HO233.out) hb); have n7_ := Aside0.mk (Kd.R_below (kdUp HO235.out) hb); have n8_ := Aside0.mk (below_step belNow hb); clear HO212; clear HO215; clear HO221; clear HO223; clear HO225; clear HO231; clear HO233; clear HO235; clear HB; have HO212 := n0_; have HO215 := n1_; have HO221 := n2_; have HO223 := n3_; have HO225 := n4_; have HO231 := n5_; have HO233 := n6_; have HO235 := n7_; have HB := n8_; clear n0_ n1_ n2_ n3_ n4_ n5_ n6_ n7_ n8_; (try clear hb); (try clear hb2); (try clear hk); (try clear hi); obtain ⟨Ao27, co27, eo27⟩ := Kd.R_slice HO223.out; subst eo27; obtain ⟨Ao28, co28, eo28⟩ := Kd.R_slice HO233.out; subst eo28; obtain ⟨Ao29, co29, eo29⟩ := Kd.R_slice HO225.out; subst eo29; obtain ⟨Ao30, co30, eo30⟩ := Kd.R_slice HO235.out; subst eo30) | (go_at_call 8; (with_reducible refine (selvagelaw17_same.calls k _ _ y210 _ _ l0 true _ ?side1 ?side2 ?side3 ?side4 A21.out).mono ?_); (case side1 => repeat (first | exact (Kd.R_reads' HO212.out).2.2 | (with_reducible refine Kd.C_alloc ?_ _) | (with_reducible refine Kd.C_drewN ?_ _) | (with_reducible refine Kd.C_drew ?_))); (case side2 => exact (Kd.R_reads' HO212.out).2.1); (case side3 => repeat (first | exact (Kd.C_below HR0.out HB.out) | (with_reducible refine Kd.C_alloc ?_ _) | (with_reducible refine Kd.C_drewN ?_ _) | (with_reducible refine Kd.C_drew ?_))); (case side4 => exact HC0.out); rintro e w' ⟨rfl, ⟨nd, rfl⟩⟩; (try first | exact ⟨rfl, _, World.drewN_drewN _ _ _⟩ | exact ⟨rfl, _, Eq.trans (World.drewN_drewN _ _ _) (congrArg (World.drewN _) (Nat.add_assoc _ _ _))⟩)) | (go_at_call 10; (with_reducible refine (selvagelaw17_sameHunks.calls k _ _ t213 _ _ l1 t239 _ ?side1 ?side2 ?side3 ?side4 A23.out).mono ?_); (case side1 => repeat (first | exact (Kd.S_reads' HO215.out).2.2 | (with_reducible refine Kd.C_alloc ?_ _) | (with_reducible refine Kd.C_drewN ?_ _) | (with_reducible refine Kd.C_drew ?_))); (case side2 => exact (Kd.S_reads' HO215.out).2.1); (case side3 => repeat (first | exact (Kd.C_below HR1.out belNow) | (with_reducible refine Kd.C_alloc ?_ _) | (with_reducible refine Kd.C_drewN ?_ _) | (with_reducible refine Kd.C_drew ?_))); (case side4 => exact HC1.out); rintro e w31 ⟨rfl, hb⟩; have n0_ := Aside0.mk (Kd.R_below (kdUp HO212.out) hb); have n1_ := Aside0.mk (Kd.S_below (by (with_reducible repeat (first | apply Kd.S_alloc | apply Kd.S_drewN | apply Kd.S_drew)); exact HO215.out) hb); have n2_ := Aside0.mk (Kd.R_below (kdUp HO221.out) hb); have n3_ := Aside0.mk (Kd.R_below (kdUp HO223.out) hb); have n4_ := Aside0.mk (Kd.R_below (kdUp HO225.out) hb); have n5_ := Aside0.mk (Kd.R_below (kdUp HO231.out) hb); have n6_ := Aside0.mk (Kd.R_below (kdUp HO233.out) hb); have n7_ := Aside0.mk (Kd.R_below (kdUp HO235.out) hb); have n8_ := Aside0.mk (below_step belNow hb); clear HO212; clear HO215; clear HO221; clear HO223; clear HO225; clear HO231; clear HO233; clear HO235; clear HB; have HO212 := n0_; have HO215 := n1_; have HO221 := n2_; have HO223 := n3_; have HO225 := n4_; have HO231 := n5_; have HO233 := n6_; have HO235 := n7_; have HB := n8_; clear n0_ n1_ n2_ n3_ n4_ n5_ n6_ n7_ n8_; (try clear hb); (try clear hb2); (try clear hk); (try clear hi))); try go_wp2_with (first | (go_at_call 8; (with_reducible refine (selvagelaw17_same.calls k _ _ t216 _ _ t226 true _ ?side1 ?side2 ?side3 ?side4 A15.out).mono ?_); (case side1 => repeat (first | exact (Kd.R_reads' HO221.out).2.2 | (with_reducible refine Kd.C_alloc ?_ _) | (with_reducible refine Kd.C_drewN ?_ _) | (with_reducible refine Kd.C_drew ?_))); (case side2 => exact (Kd.R_reads' HO221.out).2.1); (case side3 => repeat (first | exact (Kd.R_reads' HO231.out).2.2 | (with_reducible refine Kd.C_alloc ?_ _) | (with_reducible refine Kd.C_drewN ?_ _) | (with_reducible refine Kd.C_drew ?_))); (case side4 => exact (Kd.R_reads' HO231.out).2.1); rintro e w' ⟨rfl, ⟨nd, rfl⟩⟩; (try first | exact ⟨rfl, _, World.drewN_drewN _ _ _⟩ | exact ⟨rfl, _, Eq.trans (World.drewN_drewN _ _ _) (congrArg (World.drewN _) (Nat.add_assoc _ _ _))⟩); have CA17 := fun W (hG_ : Glob W) => selvagelaw17_num.calls t219 t237 W hG_ A17.out; try simp only [errW_none, errW_some] at CA17) | (go_at_call 9; (with_reducible refine (CA17 _ ?side1).mono ?_); (case side1 => exact Glob.below hGL belNow); rintro e w26 ⟨rfl, hb⟩; have n0_ := Aside0.mk (Kd.R_below (kdUp HO212.out) hb); have n1_ := Aside0.mk (Kd.S_below (by (with_reducible repeat (first | apply Kd.S_alloc | apply Kd.S_drewN | apply Kd.S_drew)); exact HO215.out) hb); have n2_ := Aside0.mk (Kd.R_below (kdUp HO221.out) hb); have n3_ := Aside0.mk (Kd.R_below (kdUp HO223.out) hb); have n4_ := Aside0.mk (Kd.R_below (kdUp HO225.out) hb); have n5_ := Aside0.mk (Kd.R_below (kdUp HO231.out) hb); have n6_ := Aside0.mk (Kd.R_below (kdUp HO233.out) hb); have n7_ := Aside0.mk (Kd.R_below (kdUp HO235.out) hb); have n8_ := Aside0.mk (below_step belNow hb); clear HO212; clear HO215; clear HO221; clear HO223; clear HO225; clear HO231; clear HO233; clear HO235; clear HB; have HO212 := n0_; have HO215 := n1_; have HO221 := n2_; have HO223 := n3_; have HO225 := n4_; have HO231 := n5_; have HO233 := n6_; have HO235 := n7_; have HB := n8_; clear n0_ n1_ n2_ n3_ n4_ n5_ n6_ n7_ n8_; (try clear hb); (try clear hb2); (try clear hk); (try clear hi); obtain ⟨Ao27, co27, eo27⟩ := Kd.R_slice HO223.out; subst eo27; obtain ⟨Ao28, co28, eo28⟩ := Kd.R_slice HO233.out; subst eo28; obtain ⟨Ao29, co29, eo29⟩ := Kd.R_slice HO225.out; subst eo29; obtain ⟨Ao30, co30, eo30⟩ := Kd.R_slice HO235.out; subst eo30) | (go_at_call 8; (with_reducible refine (selvagelaw17_same.calls k _ _ y210 _ _ l0 true _ ?side1 ?side2 ?side3 ?side4 A21.out).mono ?_); (case side1 => repeat (first | exact (Kd.R_reads' HO212.out).2.2 | (with_reducible refine Kd.C_alloc ?_ _) | (with_reducible refine Kd.C_drewN ?_ _) | (with_reducible refine Kd.C_drew ?_))); (case side2 => exact (Kd.R_reads' HO212.out).2.1); (case side3 => repeat (first | exact (Kd.C_below HR0.out HB.out) | (with_reducible refine Kd.C_alloc ?_ _) | (with_reducible refine Kd.C_drewN ?_ _) | (with_reducible refine Kd.C_drew ?_))); (case side4 => exact HC0.out); rintro e w' ⟨rfl, ⟨nd, rfl⟩⟩; (try first | exact ⟨rfl, _, World.drewN_drewN _ _ _⟩ | exact ⟨rfl, _, Eq.trans (World.drewN_drewN _ _ _) (congrArg (World.drewN _) (Nat.add_assoc _ _ _))⟩)) | (go_at_call 10; (with_reducible refine (selvagelaw17_sameHunks.calls k _ _ t213 _ _ l1 t239 _ ?side1 ?side2 ?side3 ?side4 A23.out).mono ?_); (case side1 => repeat (first | exact (Kd.S_reads' HO215.out).2.2 | (with_reducible refine Kd.C_alloc ?_ _) | (with_reducible refine Kd.C_drewN ?_ _) | (with_reducible refine Kd.C_drew ?_))); (case side2 => exact (Kd.S_reads' HO215.out).2.1); (case side3 => repeat (first | exact (Kd.C_below HR1.out belNow) | (with_reducible refine Kd.C_alloc ?_ _) | (with_reducible refine Kd.C_drewN ?_ _) | (with_reducible refine Kd.C_drew ?_))); (case side4 => exact HC1.out); rintro e w31 ⟨rfl, hb⟩; have n0_ := Aside0.mk (Kd.R_below (kdUp HO212.out) hb); have n1_ := Aside0.mk (Kd.S_below (by (with_reducible repeat (first | apply Kd.S_alloc | apply Kd.S_drewN | apply Kd.S_drew)); exact HO215.out) hb); have n2_ := Aside0.mk (Kd.R_below (kdUp HO221.out) hb); have n3_ := Aside0.mk (Kd.R_below (kdUp HO223.out) hb); have n4_ := Aside0.mk (Kd.R_below (kdUp HO225.out) hb); have n5_ := Aside0.mk (Kd.R_below (kdUp HO231.out) hb); have n6_ := Aside0.mk (Kd.R_below (kdUp HO233.out) hb); have n7_ := Aside0.mk (Kd.R_below (kdUp HO235.out) hb); have n8_ := Aside0.mk (below_step belNow hb); clear HO212; clear HO215; clear HO221; clear HO223; clear HO225; clear HO231; clear HO233; clear HO235; clear HB; have HO212 := n0_; have HO215 := n1_; have HO221 := n2_; have HO223 := n3_; have HO225 := n4_; have HO231 := n5_; have HO233 := n6_; have HO235 := n7_; have HB := n8_; clear n0_ n1_ n2_ n3_ n4_ n5_ n6_ n7_ n8_; (try clear hb); (try clear hb2); (try clear hk); (try clear hi))))
        go_meet
        case rel => exact ⟨_, (!t239), eqNow, H', ⟨by first | omega | exact Nat.le_refl _⟩, ⟨by (with_reducible repeat (first | apply Kd.R_alloc | apply Kd.R_drewN | apply Kd.R_drew)); (first | exact HO223.out | exact Kd.R_mono HO223.out (fun k_ h_ h2_ => h_ (h2_.trans ((fun (A_ : Option Addr) (n_ m_ c_ : Nat) => (show (Value.slice A_ n_ c_).ownBlock = (Value.slice A_ m_ c_).ownBlock by cases A_ <;> rfl)) _ _ _ _))))⟩, ⟨by (with_reducible repeat (first | apply Kd.R_alloc | apply Kd.R_drewN | apply Kd.R_drew)); exact Kd.R_mono HO225.out (fun _ hk => hk.2)⟩, ⟨by (with_reducible repeat (first | apply Kd.R_alloc | apply Kd.R_drewN | apply Kd.R_drew)); (first | exact HO233.out | exact Kd.R_mono HO233.out (fun k_ h_ h2_ => h_ (h2_.trans ((fun (A_ : Option Addr) (n_ m_ c_ : Nat) => (show (Value.slice A_ n_ c_).ownBlock = (Value.slice A_ m_ c_).ownBlock by cases A_ <;> rfl)) _ _ _ _))))⟩, ⟨by (with_reducible repeat (first | apply Kd.R_alloc | apply Kd.R_drewN | apply Kd.R_drew)); exact Kd.R_mono HO235.out (fun _ hk => hk.2)⟩, ⟨belNow⟩⟩
       ·rw [if_neg c22, selvagelaw17_ApplyApplies.j0_dead] at H
        exact absurd H (by simp)
      ·rw [if_neg c20, selvagelaw17_ApplyApplies.j0_dead] at H
       exact absurd H (by simp)
     ·rw [if_neg c19, selvagelaw17_ApplyApplies.j0_dead] at H
      exact absurd H (by simp)
    ·rw [if_neg c18, selvagelaw17_ApplyApplies.j0_dead] at H
     exact absurd H (by simp)
   ·rw [if_neg c16, selvagelaw17_ApplyApplies.j0_dead] at H
    exact absurd H (by simp)
  case rest =>
   clear HC8
   try clear c1
   try clear c2
   try clear p2
   try clear c3
   try clear c4
   try clear c16
   try clear c18
   try clear c18b0
   try clear c18b1
   try clear c19
   try clear c19b0
   try clear c19b1
   try clear c19b2
   try clear c20
   try clear c20b0
   try clear c20b1
   try clear c20b2
   try clear c22
   obtain ⟨kq, x77_7, rfl, HA, HJ7, HO_10, HO_11, HO_14, HO_15, HB⟩ := hcut
   cases kq with
   | zero => exact absurd HA.out (by simp [selvagelaw17_ApplyApplies.j0])
   | succ kj7 =>
    have H := HA.out
    clear HA
    simp only [selvagelaw17_ApplyApplies.j0] at H
    by_cases c56 : x77_7 = true
    ·rw [if_pos c56] at H
     exact absurd H (by simp)
    ·replace c56 := Bool.eq_false_iff.mpr c56
     subst c56
     have H1 : (selvagelaw17_ApplyApplies.l0 kj7 t217 t218 t227 t228 0) = some r := by rw [if_neg (show ¬ (false = true) by decide)] at H; exact H
     clear H
     have H := H1
     clear H1
     have H' := Aside0.mk H
     clear H
     go_wp2
     repeat (go_quiet (fail); try go_wp2)
     go_loopg [17] kj7 (fun kq v17 w' => ∃ (x17_2 : Int), v17 = .int .i64 x17_2 ∧ Aside0 (selvagelaw17_ApplyApplies.l0 kq t217 t218 t227 t228 x17_2 = some r) ∧ Aside0 (kq ≤ kj7) ∧ Aside0 (Kd.R k38 38 w' w.heap.size (fun _ => True) v222 t217) ∧ Aside0 (Kd.R (Kd.int .i64) 3 w' w.heap.size (fun k_ => some k_ ≠ (v234 : Value).ownBlock) v224 t218) ∧ Aside0 (Kd.R k39 39 w' w.heap.size (fun _ => True) v232 t227) ∧ Aside0 (Kd.R (Kd.int .i64) 3 w' w.heap.size (fun k_ => some k_ ≠ (v224 : Value).ownBlock) v234 t228) ∧ Aside0 (Below w.heap.size w w'))
     case atStart => exact ⟨(0), eqNow, H', ⟨Nat.le_refl _⟩, ⟨by (with_reducible repeat (first | apply Kd.R_alloc | apply Kd.R_drewN | apply Kd.R_drew)); (first | exact HO_10.out | exact Kd.R_mono HO_10.out (fun k_ h_ h2_ => h_ (h2_.trans ((fun (A_ : Option Addr) (n_ m_ c_ : Nat) => (show (Value.slice A_ n_ c_).ownBlock = (Value.slice A_ m_ c_).ownBlock by cases A_ <;> rfl)) _ _ _ _))))⟩, ⟨by (with_reducible repeat (first | apply Kd.R_alloc | apply Kd.R_drewN | apply Kd.R_drew)); (first | exact HO_11.out | exact Kd.R_mono HO_11.out (fun k_ h_ h2_ => h_ (h2_.trans ((fun (A_ : Option Addr) (n_ m_ c_ : Nat) => (show (Value.slice A_ n_ c_).ownBlock = (Value.slice A_ m_ c_).ownBlock by cases A_ <;> rfl)) _ _ _ _))))⟩, ⟨by (with_reducible repeat (first | apply Kd.R_alloc | apply Kd.R_drewN | apply Kd.R_drew)); (first | exact HO_14.out | exact Kd.R_mono HO_14.out (fun k_ h_ h2_ => h_ (h2_.trans ((fun (A_ : Option Addr) (n_ m_ c_ : Nat) => (show (Value.slice A_ n_ c_).ownBlock = (Value.slice A_ m_ c_).ownBlock by cases A_ <;> rfl)) _ _ _ _))))⟩, ⟨by (with_reducible repeat (first | apply Kd.R_alloc | apply Kd.R_drewN | apply Kd.R_drew)); (first | exact HO_15.out | exact Kd.R_mono HO_15.out (fun k_ h_ h2_ => h_ (h2_.trans ((fun (A_ : Option Addr) (n_ m_ c_ : Nat) => (show (Value.slice A_ n_ c_).ownBlock = (Value.slice A_ m_ c_).ownBlock by cases A_ <;> rfl)) _ _ _ _))))⟩, ⟨belNow⟩⟩
     case round =>
      clear H'
      try clear c1
      try clear c2
      try clear p2
      try clear c3
      try clear c4
      try clear c5
      try clear c16
      try clear c18
      try clear c18b0
      try clear c18b1
      try clear c19
      try clear c19b0
      try clear c19b1
      try clear c19b2
      try clear c20
      try clear c20b0
      try clear c20b1
      try clear c20b2
      try clear c22
      try clear c56
      try clear p2
      obtain ⟨x17_2, rfl, HA, HK2, HO_10, HO_11, HO_14, HO_15, HB⟩ := hrel
      cases gk with
      | zero => exact absurd HA.out (by simp [selvagelaw17_ApplyApplies.l0])
      | succ k2 =>
       have H := HA.out
       clear HA
       simp only [selvagelaw17_ApplyApplies.l0] at H
       by_cases c57 : x17_2 < (t217.length : Int)
       ·rw [if_pos c57] at H
        have c57b0 : decide (x17_2 < (t217.length : Int)) = true := decide_eq_true c57
        clear c57
        by_cases c58 : 0 ≤ x17_2
        ·rw [if_pos c58] at H
         have c58b0 : decide (0 ≤ x17_2) = true := decide_eq_true c58
         clear c58
         by_cases c59 : x17_2 < (t227.length : Int)
         ·rw [if_pos c59] at H
          have c59b0 : decide (x17_2 < (t227.length : Int)) = true := decide_eq_true c59
          clear c59
          by_cases c60 : (!(((rd_T38 t217 x17_2).f0) == ((rd_T39 t227 x17_2).f0)) || (!(((rd_T38 t217 x17_2).f1) == ((rd_T39 t227 x17_2).f1)) || (!(((rd_T38 t217 x17_2).f2) == ((rd_T39 t227 x17_2).f2)) || (!(((rd_T38 t217 x17_2).f3) == ((rd_T39 t227 x17_2).f3)))))) = true
          ·rw [if_pos c60] at H
           exact absurd H (by simp)
          ·rw [if_neg c60] at H
           have c60b0 : (!(((rd_T38 t217 x17_2).f0) == ((rd_T39 t227 x17_2).f0)) || (!(((rd_T38 t217 x17_2).f1) == ((rd_T39 t227 x17_2).f1)) || (!(((rd_T38 t217 x17_2).f2) == ((rd_T39 t227 x17_2).f2)) || (!(((rd_T38 t217 x17_2).f3) == ((rd_T39 t227 x17_2).f3)))))) = false := by simpa using c60
           clear c60
           have H' := Aside0.mk H
           clear H
           obtain ⟨Ao63, co63, eo63⟩ := Kd.R_slice HO_10.out
           subst eo63
           have p240 : 0 ≤ (x17_2 : Int) := ofDec
           have q240 : x17_2 < (t217.length : Int) := ofDec
           obtain ⟨ad240, e240, hx240_0, hx240_1, hx240_2, hx240_3⟩ := at_T38 (Kd.R_reads' HO_10.out).2.2 x17_2 p240 q240
           cases e240
           replace p240 := eq_true p240
           replace q240 := eq_true q240
           obtain ⟨Ao64, co64, eo64⟩ := Kd.R_slice HO_14.out
           subst eo64
           have p241 : 0 ≤ (x17_2 : Int) := ofDec
           have q241 : x17_2 < (t227.length : Int) := ofDec
           obtain ⟨ad241, e241, hx241_0, hx241_1, hx241_2, hx241_3⟩ := at_T39 (Kd.R_reads' HO_14.out).2.2 x17_2 p241 q241
           cases e241
           replace p241 := eq_true p241
           replace q241 := eq_true q241
           go_wp2
           repeat (go_quiet (fail); try go_wp2)
           go_roundg k2
           case measure => have := HJ7.out; have := HK2.out; omega
           case rel => exact ⟨(wrap64 (x17_2 + 1)), eqNow, H', ⟨by have := HJ7.out; have := HK2.out; omega⟩, ⟨by (with_reducible repeat (first | apply Kd.R_alloc | apply Kd.R_drewN | apply Kd.R_drew)); (first | exact HO_10.out | exact Kd.R_mono HO_10.out (fun k_ h_ h2_ => h_ (h2_.trans ((fun (A_ : Option Addr) (n_ m_ c_ : Nat) => (show (Value.slice A_ n_ c_).ownBlock = (Value.slice A_ m_ c_).ownBlock by cases A_ <;> rfl)) _ _ _ _))))⟩, ⟨by (with_reducible repeat (first | apply Kd.R_alloc | apply Kd.R_drewN | apply Kd.R_drew)); (first | exact HO_11.out | exact Kd.R_mono HO_11.out (fun k_ h_ h2_ => h_ (h2_.trans ((fun (A_ : Option Addr) (n_ m_ c_ : Nat) => (show (Value.slice A_ n_ c_).ownBlock = (Value.slice A_ m_ c_).ownBlock by cases A_ <;> rfl)) _ _ _ _))))⟩, ⟨by (with_reducible repeat (first | apply Kd.R_alloc | apply Kd.R_drewN | apply Kd.R_drew)); (first | exact HO_14.out | exact Kd.R_mono HO_14.out (fun k_ h_ h2_ => h_ (h2_.trans ((fun (A_ : Option Addr) (n_ m_ c_ : Nat) => (show (Value.slice A_ n_ c_).ownBlock = (Value.slice A_ m_ c_).ownBlock by cases A_ <;> rfl)) _ _ _ _))))⟩, ⟨by (with_reducible repeat (first | apply Kd.R_alloc | apply Kd.R_drewN | apply Kd.R_drew)); (first | exact HO_15.out | exact Kd.R_mono HO_15.out (fun k_ h_ h2_ => h_ (h2_.trans ((fun (A_ : Option Addr) (n_ m_ c_ : Nat) => (show (Value.slice A_ n_ c_).ownBlock = (Value.slice A_ m_ c_).ownBlock by cases A_ <;> rfl)) _ _ _ _))))⟩, ⟨belNow⟩⟩
         ·rw [if_neg c59] at H
          exact absurd H (by simp)
        ·rw [if_neg c58] at H
         exact absurd H (by simp)
       ·rw [if_neg c57] at H
        have c57b0 : decide (x17_2 < (t217.length : Int)) = false := decide_eq_false c57
        clear c57
        have H' := Aside0.mk H
        clear H
        obtain ⟨Ao65, co65, eo65⟩ := Kd.R_slice HO_10.out
        subst eo65
        go_wp2
        repeat (go_quiet (fail); try go_wp2)
        go_loopg [18] k2 (fun kq v18 w' => ∃ (x18_3 : Int), v18 = .int .i64 x18_3 ∧ Aside0 (selvagelaw17_ApplyApplies.l1 kq t218 t228 x18_3 = some r) ∧ Aside0 (kq ≤ k2) ∧ Aside0 (Kd.R (Kd.int .i64) 3 w' w.heap.size (fun k_ => some k_ ≠ (v234 : Value).ownBlock) v224 t218) ∧ Aside0 (Kd.R (Kd.int .i64) 3 w' w.heap.size (fun k_ => some k_ ≠ (v224 : Value).ownBlock) v234 t228) ∧ Aside0 (Below w.heap.size w w'))
        case atStart => exact ⟨(0), eqNow, H', ⟨Nat.le_refl _⟩, ⟨by (with_reducible repeat (first | apply Kd.R_alloc | apply Kd.R_drewN | apply Kd.R_drew)); (first | exact HO_11.out | exact Kd.R_mono HO_11.out (fun k_ h_ h2_ => h_ (h2_.trans ((fun (A_ : Option Addr) (n_ m_ c_ : Nat) => (show (Value.slice A_ n_ c_).ownBlock = (Value.slice A_ m_ c_).ownBlock by cases A_ <;> rfl)) _ _ _ _))))⟩, ⟨by (with_reducible repeat (first | apply Kd.R_alloc | apply Kd.R_drewN | apply Kd.R_drew)); (first | exact HO_15.out | exact Kd.R_mono HO_15.out (fun k_ h_ h2_ => h_ (h2_.trans ((fun (A_ : Option Addr) (n_ m_ c_ : Nat) => (show (Value.slice A_ n_ c_).ownBlock = (Value.slice A_ m_ c_).ownBlock by cases A_ <;> rfl)) _ _ _ _))))⟩, ⟨belNow⟩⟩
        case round =>
         clear H'
         try clear c1
         try clear c2
         try clear p2
         try clear q2
         try clear hx2
         try clear c3
         try clear c4
         try clear c5
         try clear c6
         try clear p6
         try clear c16
         try clear c18
         try clear c18b0
         try clear c18b1
         try clear c19
         try clear c19b0
         try clear c19b1
         try clear c19b2
         try clear c20
         try clear c20b0
         try clear c20b1
         try clear c20b2
         try clear c22
         try clear p24
         try clear q24
         try clear hx24
         try clear c56
         try clear c57
         try clear c57b0
         try clear c58
         try clear c58b0
         try clear c59
         try clear c59b0
         try clear c60
         try clear c60b0
         try clear p64
         try clear hx240_0
         try clear hx240_1
         try clear hx240_2
         try clear hx240_3
         try clear hx241_0
         try clear hx241_1
         try clear hx241_2
         try clear hx241_3
         try clear p2
         try clear p240
         try clear p241
         try clear q240
         try clear q241
         obtain ⟨x18_3, rfl, HA, HK3, HO_11, HO_15, HB⟩ := hrel
         cases gk with
         | zero => exact absurd HA.out (by simp [selvagelaw17_ApplyApplies.l1])
         | succ k3 =>
          have H := HA.out
          clear HA
          simp only [selvagelaw17_ApplyApplies.l1] at H
          by_cases c66 : x18_3 < (t218.length : Int)
          ·rw [if_pos c66] at H
           have c66b0 : decide (x18_3 < (t218.length : Int)) = true := decide_eq_true c66
           clear c66
           by_cases c67 : 0 ≤ x18_3
           ·rw [if_pos c67] at H
            have c67b0 : decide (0 ≤ x18_3) = true := decide_eq_true c67
            clear c67
            by_cases c68 : x18_3 < (t228.length : Int)
            ·rw [if_pos c68] at H
             have c68b0 : decide (x18_3 < (t228.length : Int)) = true := decide_eq_true c68
             clear c68
             by_cases c69 : (rd t218 x18_3) = (rd t228 x18_3)
             ·rw [if_pos c69] at H
              have c69b0 : ((rd t218 x18_3) == (rd t228 x18_3)) = true := beq_iff_eq.mpr c69
              have c69b1 : ((rd t218 x18_3) != (rd t228 x18_3)) = false := bne_eq_false_iff_eq.mpr c69
              clear c69
              have H' := Aside0.mk H
              clear H
              obtain ⟨Ao70, co70, eo70⟩ := Kd.R_slice HO_11.out
              subst eo70
              have p242 : 0 ≤ (x18_3 : Int) := ofDec
              have q242 : x18_3 < (t218.length : Int) := ofDec
              obtain ⟨ad242, e242, hx242_0⟩ := Kd.at_int (Kd.R_reads' HO_11.out).2.2 x18_3 p242 q242
              cases e242
              replace p242 := eq_true p242
              replace q242 := eq_true q242
              obtain ⟨Ao71, co71, eo71⟩ := Kd.R_slice HO_15.out
              subst eo71
              have p243 : 0 ≤ (x18_3 : Int) := ofDec
              have q243 : x18_3 < (t228.length : Int) := ofDec
              obtain ⟨ad243, e243, hx243_0⟩ := Kd.at_int (Kd.R_reads' HO_15.out).2.2 x18_3 p243 q243
              cases e243
              replace p243 := eq_true p243
              replace q243 := eq_true q243
              go_wp2
              repeat (go_quiet (fail); try go_wp2)
              go_roundg k3
              case measure => have := HJ7.out; have := HK2.out; have := HK3.out; omega
              case rel => exact ⟨(wrap64 (x18_3 + 1)), eqNow, H', ⟨by have := HJ7.out; have := HK2.out; have := HK3.out; omega⟩, ⟨by (with_reducible repeat (first | apply Kd.R_alloc | apply Kd.R_drewN | apply Kd.R_drew)); (first | exact HO_11.out | exact Kd.R_mono HO_11.out (fun k_ h_ h2_ => h_ (h2_.trans ((fun (A_ : Option Addr) (n_ m_ c_ : Nat) => (show (Value.slice A_ n_ c_).ownBlock = (Value.slice A_ m_ c_).ownBlock by cases A_ <;> rfl)) _ _ _ _))))⟩, ⟨by (with_reducible repeat (first | apply Kd.R_alloc | apply Kd.R_drewN | apply Kd.R_drew)); (first | exact HO_15.out | exact Kd.R_mono HO_15.out (fun k_ h_ h2_ => h_ (h2_.trans ((fun (A_ : Option Addr) (n_ m_ c_ : Nat) => (show (Value.slice A_ n_ c_).ownBlock = (Value.slice A_ m_ c_).ownBlock by cases A_ <;> rfl)) _ _ _ _))))⟩, ⟨belNow⟩⟩
             ·rw [if_neg c69] at H
              exact absurd H (by simp)
            ·rw [if_neg c68] at H
             exact absurd H (by simp)
           ·rw [if_neg c67] at H
            exact absurd H (by simp)
          ·rw [if_neg c66] at H
           have c66b0 : decide (x18_3 < (t218.length : Int)) = false := decide_eq_false c66
           clear c66
           replace H := Option.bind_eq_some_iff.mp H
           obtain ⟨t244, A740, H⟩ := H
           replace H : (some t244) = some r := H
           have A74 := Aside0.mk A740
           clear A740
           obtain rfl := Option.some.inj H
           obtain ⟨Ao75, co75, eo75⟩ := Kd.R_slice HO_11.out
           subst eo75
           go_wp2_with (first | (go_at_call 11; (with_reducible refine (selvagelaw17_sure.calls k3  t244 _ A74.out).mono ?_); rintro e w76 ⟨rfl, hb⟩; have n0_ := Aside0.mk (Kd.R_below (kdUp HO_11.out) hb); have n1_ := Aside0.mk (Kd.R_below (kdUp HO_15.out) hb); have n2_ := Aside0.mk (below_step belNow hb); clear HO_11; clear HO_15; clear HB; have HO_11 := n0_; have HO_15 := n1_; have HB := n2_; clear n0_ n1_ n2_; (try clear hb); (try clear hb2); (try clear hk); (try clear hi)))
           repeat (go_quiet (first | (go_at_call 11; (with_reducible refine (selvagelaw17_sure.calls k3  t244 _ A74.out).mono ?_); rintro e w76 ⟨rfl, hb⟩; have n0_ := Aside0.mk (Kd.R_below (kdUp HO_11.out) hb); have n1_ := Aside0.mk (Kd.R_below (kdUp HO_15.out) hb); have n2_ := Aside0.mk (below_step belNow hb); clear HO_11; clear HO_15; clear HB; have HO_11 := n0_; have HO_15 := n1_; have HB := n2_; clear n0_ n1_ n2_; (try clear hb); (try clear hb2); (try clear hk); (try clear hi))); try go_wp2_with (first | (go_at_call 11; (with_reducible refine (selvagelaw17_sure.calls k3  t244 _ A74.out).mono ?_); rintro e w76 ⟨rfl, hb⟩; have n0_ := Aside0.mk (Kd.R_below (kdUp HO_11.out) hb); have n1_ := Aside0.mk (Kd.R_below (kdUp HO_15.out) hb); have n2_ := Aside0.mk (below_step belNow hb); clear HO_11; clear HO_15; clear HB; have HO_11 := n0_; have HO_15 := n1_; have HB := n2_; clear n0_ n1_ n2_; (try clear hb); (try clear hb2); (try clear hk); (try clear hi))))
           go_ret
           exact ⟨eqEnd, belNow⟩
 ·rw [if_neg c4] at H
  exact absurd H (by simp)
end Go.Proofs.YtkoagpnoaibdjaaDoor.Pp
