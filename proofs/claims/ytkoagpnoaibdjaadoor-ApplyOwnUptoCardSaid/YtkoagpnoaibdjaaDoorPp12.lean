-- Printed by this session's pp.py over the kit's printer, out of the translation. Lean checks it.
import Derived.Test.YtkoagpnoaibdjaaDoorESq
import Derived.Test.YtkoagpnoaibdjaaDoorPp0
import Derived.Test.YtkoagpnoaibdjaaDoorPp9
import Derived.Test.YtkoagpnoaibdjaaDoorEApply
import Derived.Test.YtkoagpnoaibdjaaDoorERefApply
import Derived.Test.YtkoagpnoaibdjaaDoorESure
namespace Go.Proofs.YtkoagpnoaibdjaaDoor.Pp
open Go.RowKit Go.Proofs.YtkoagpnoaibdjaaDoor.Ext Go.Proofs.YtkoagpnoaibdjaaDoorW.PrintWords Go.Proofs.YtkoagpnoaibdjaaDoorW.PrintLast Go.Proofs.YtkoagpnoaibdjaaDoorW.PrintMore
attribute [local go_sem] max2_int min2_int max_two min_two max_three min_three max_four min_four   -- for this text's walks alone
set_option linter.unusedVariables false
set_option linter.unusedSimpArgs false
mutual
def selvagelaw17_ApplyOwn.l0 : Nat → List ByteArray → List (S44) → Int → List ByteArray → List (S38) → List Int → Int → Option (Bool)
 | 0, _, _, _, _, _, _, _ => none
 | k + 1, x0, x1, x2, x7, x8, x9, x11 => if x11 < (x7.length : Int) then (if 0 ≤ x11 then (selvagelaw17_ApplyOwn.l0 k x0 x1 x2 (x7.set (x11 : Int).toNat (⟨#[115, 112, 111, 105, 108, 116]⟩ : ByteArray)) x8 x9 (wrap64 (x11 + 1))) else (none)) else (selvagelaw17_ApplyOwn.l1 k x0 x1 x2 x7 x8 x9 0)
def selvagelaw17_ApplyOwn.l1 : Nat → List ByteArray → List (S44) → Int → List ByteArray → List (S38) → List Int → Int → Option (Bool)
 | 0, _, _, _, _, _, _, _ => none
 | k + 1, x0, x1, x2, x7, x8, x9, x12 => if x12 < (x8.length : Int) then (if 0 ≤ x12 then (selvagelaw17_ApplyOwn.l1 k x0 x1 x2 x7 (x8.set (x12 : Int).toNat (⟨(-7), 0, 0, 0⟩ : S38)) x9 (wrap64 (x12 + 1))) else (none)) else (selvagelaw17_ApplyOwn.l2 k x0 x1 x2 x7 x9 0)
def selvagelaw17_ApplyOwn.l2 : Nat → List ByteArray → List (S44) → Int → List ByteArray → List Int → Int → Option (Bool)
 | 0, _, _, _, _, _, _ => none
 | k + 1, x0, x1, x2, x7, x9, x13 => if x13 < (x9.length : Int) then (if 0 ≤ x13 then (selvagelaw17_ApplyOwn.l2 k x0 x1 x2 x7 (x9.set (x13 : Int).toNat (-7)) (wrap64 (x13 + 1))) else (none)) else ((some (([(⟨#[109, 111, 114, 101]⟩ : ByteArray), (⟨#[109, 111, 114, 101]⟩ : ByteArray)] : List ByteArray) : List ByteArray)).bind fun y258 => (if x7.length + y258.length < 8796093022208 then ((apply_Apply.f k x0 x1 x2).bind fun bt264 => ((selvageref17_Apply.f k x0 x1 x2).bind fun bt274 => (if (bt264.2.2.1.length : Int) = (bt274.2.2.1.length : Int) then (selvagelaw17_ApplyOwn.l3 k (x7 ++ y258) bt264.1 bt264.2.2.1 bt264.2.2.2 bt274.1 bt274.2.2.1 bt274.2.2.2 0) else (none)))) else (none)))
def selvagelaw17_ApplyOwn.l3 : Nat → List ByteArray → List ByteArray → List Int → Option Int → List ByteArray → List Int → Int → Int → Option (Bool)
 | 0, _, _, _, _, _, _, _, _ => none
 | k + 1, x7, x14, x16, x17, x18, x20, x21, x22 => if x22 < (x16.length : Int) then (if 0 ≤ x22 then (if x22 < (x20.length : Int) then (if (rd x16 x22) = (rd x20 x22) then (selvagelaw17_ApplyOwn.l3 k x7 x14 x16 x17 x18 x20 x21 (wrap64 (x22 + 1))) else (none)) else (none)) else (none)) else ((selvagelaw17_same.f k x14 x18).bind fun t286 => (if t286 = true then ((selvagelaw17_num.f x17).bind fun t287 => (if t287 = x21 then (if 0 ≤ (wrap64 ((x7.length : Int) - 1)) then (if (wrap64 ((x7.length : Int) - 1)) < (x7.length : Int) then (if (rdOf ByteArray.empty x7 (wrap64 ((x7.length : Int) - 1))).toList = ([109, 111, 114, 101] : List UInt8) then ((selvagelaw17_sure.f k).bind fun t289 => (some t289)) else (none)) else (none)) else (none)) else (none))) else (none)))
end
def selvagelaw17_ApplyOwn.f (k : Nat) (l0 : List ByteArray) (l1 : List (S44)) (a2 : Int) : Option (Bool) := (apply_Apply.f k l0 l1 a2).bind fun bt245 => (selvagelaw17_ApplyOwn.l0 k l0 l1 a2 bt245.1 bt245.2.1 bt245.2.2.1 0)
set_option maxHeartbeats 80000000 in
set_option maxRecDepth 100000 in
theorem selvagelaw17_ApplyOwn.calls (k : Nat) (A0 : Option Addr) (c0 : Nat) (l0 : List ByteArray) (A1 : Option Addr) (c1 : Nat) (l1 : List (S44)) (a2 : Int) (r : Bool) (w : World) (hr0 : Kd.C Kd.string w A0 l0.length l0) (hc0 : l0.length ≤ c0) (hr1 : Kd.C k44 w A1 l1.length l1) (hc1 : l1.length ≤ c1) (hGL : Glob w) (h : selvagelaw17_ApplyOwn.f k l0 l1 a2 = some r) :
  Calls Tryd.prog 4 #[.slice A0 l0.length c0, .slice A1 l1.length c1, .int .i64 a2] w fun e w' => e = .returned (.bool r) ∧ Below w.heap.size w w' := by
 have hu38 := Tryd.underlying38
 have HR0 := Aside0.mk hr0
 have HC0 := Aside0.mk hc0
 clear hr0 hc0
 have HR1 := Aside0.mk hr1
 have HC1 := Aside0.mk hc1
 clear hr1 hc1
 have HB := Aside0.mk (Below.refl w.heap.size w)
 have H : ((apply_Apply.f k l0 l1 a2).bind fun bt245 => (selvagelaw17_ApplyOwn.l0 k l0 l1 a2 bt245.1 bt245.2.1 bt245.2.2.1 0)) = some r := h
 clear h
 replace H := Option.bind_eq_some_iff.mp H
 obtain ⟨⟨t245, t246, t247, t248⟩, A40, H⟩ := H
 replace H : (selvagelaw17_ApplyOwn.l0 k l0 l1 a2 t245 t246 t247 0) = some r := H
 have A4 := Aside0.mk A40
 clear A40
 have H' := Aside0.mk H
 clear H
 go_enter Tryd.func4, Tryd.ntmps4
 try simp only [List.append_eq, List.cons_append, List.nil_append]
 go_wp2_with (first | (go_at_call 6; (with_reducible refine (apply_Apply.calls k _ _ l0 _ _ l1 a2 t245 t246 t247 t248 _ ?side1 ?side2 ?side3 ?side4 A4.out).mono ?_); (case side1 => repeat (first | exact HR0.out | (with_reducible refine Kd.C_alloc ?_ _) | (with_reducible refine Kd.C_drewN ?_ _) | (with_reducible refine Kd.C_drew ?_))); (case side2 => exact HC0.out); (case side3 => repeat (first | exact HR1.out | (with_reducible refine Kd.C_alloc ?_ _) | (with_reducible refine Kd.C_drewN ?_ _) | (with_reducible refine Kd.C_drew ?_))); (case side4 => exact HC1.out); rintro e w5 ⟨v249, v251, v253, rfl, ho0, ho1, ho2, hb⟩; have n0_ := Aside0.mk (Kd.R_lower ho0 (below_size belNow)); have n1_ := Aside0.mk (Kd.R_lower ho1 (below_size belNow)); have n2_ := Aside0.mk (Kd.R_lower ho2 (below_size belNow)); have n3_ := Aside0.mk (below_step belNow hb); clear HB; have HO250 := n0_; have HO252 := n1_; have HO254 := n2_; have HB := n3_; clear n0_ n1_ n2_ n3_; (try clear hb); (try clear hb2); (try clear hk); (try clear hi); (try clear ho0); (try clear ho1); (try clear ho2); (try simp only [errW_none, errW_some])))
 repeat (go_quiet (first | (go_at_call 6; (with_reducible refine (apply_Apply.calls k _ _ l0 _ _ l1 a2 t245 t246 t247 t248 _ ?side1 ?side2 ?side3 ?side4 A4.out).mono ?_); (case side1 => repeat (first | exact HR0.out | (with_reducible refine Kd.C_alloc ?_ _) | (with_reducible refine Kd.C_drewN ?_ _) | (with_reducible refine Kd.C_drew ?_))); (case side2 => exact HC0.out); (case side3 => repeat (first | exact HR1.out | (with_reducible refine Kd.C_alloc ?_ _) | (with_reducible refine Kd.C_drewN ?_ _) | (with_reducible refine Kd.C_drew ?_))); (case side4 => exact HC1.out); rintro e w5 ⟨v249, v251, v253, rfl, ho0, ho1, ho2, hb⟩; have n0_ := Aside0.mk (Kd.R_lower ho0 (below_size belNow)); have n1_ := Aside0.mk (Kd.R_lower ho1 (below_size belNow)); have n2_ := Aside0.mk (Kd.R_lower ho2 (below_size belNow)); have n3_ := Aside0.mk (below_step belNow hb); clear HB; have HO250 := n0_; have HO252 := n1_; have HO254 := n2_; have HB := n3_; clear n0_ n1_ n2_ n3_; (try clear hb); (try clear hb2); (try clear hk); (try clear hi); (try clear ho0); (try clear ho1); (try clear ho2); (try simp only [errW_none, errW_some]))); try go_wp2_with (first | (go_at_call 6; (with_reducible refine (apply_Apply.calls k _ _ l0 _ _ l1 a2 t245 t246 t247 t248 _ ?side1 ?side2 ?side3 ?side4 A4.out).mono ?_); (case side1 => repeat (first | exact HR0.out | (with_reducible refine Kd.C_alloc ?_ _) | (with_reducible refine Kd.C_drewN ?_ _) | (with_reducible refine Kd.C_drew ?_))); (case side2 => exact HC0.out); (case side3 => repeat (first | exact HR1.out | (with_reducible refine Kd.C_alloc ?_ _) | (with_reducible refine Kd.C_drewN ?_ _) | (with_reducible refine Kd.C_drew ?_))); (case side4 => exact HC1.out); rintro e w5 ⟨v249, v251, v253, rfl, ho0, ho1, ho2, hb⟩; have n0_ := Aside0.mk (Kd.R_lower ho0 (below_size belNow)); have n1_ := Aside0.mk (Kd.R_lower ho1 (below_size belNow)); have n2_ := Aside0.mk (Kd.R_lower ho2 (below_size belNow)); have n3_ := Aside0.mk (below_step belNow hb); clear HB; have HO250 := n0_; have HO252 := n1_; have HO254 := n2_; have HB := n3_; clear n0_ n1_ n2_ n3_; (try clear hb); (try clear hb2); (try clear hk); (try clear hi); (try clear ho0); (try clear ho1); (try clear ho2); (try simp only [errW_none, errW_some]))))
 go_loopg [11] k (fun kq v11 w' => ∃ (x7_1 : List ByteArray) (x11_1 : Int), v11 = .int .i64 x11_1 ∧ Aside0 (selvagelaw17_ApplyOwn.l0 kq l0 l1 a2 x7_1 t246 t247 x11_1 = some r) ∧ Aside0 (kq ≤ k) ∧ Aside0 (Kd.R Kd.string 9 w' w.heap.size (fun _ => True) v249 x7_1) ∧ Aside0 (Kd.R k38 38 w' w.heap.size (fun _ => True) v251 t246) ∧ Aside0 (Kd.R (Kd.int .i64) 3 w' w.heap.size (fun _ => True) v253 t247) ∧ Aside0 (Below w.heap.size w w'))
 case atStart => exact ⟨(t245), (0), eqNow, H', ⟨Nat.le_refl _⟩, ⟨by (with_reducible repeat (first | apply Kd.R_alloc | apply Kd.R_drewN | apply Kd.R_drew)); (first | exact HO250.out | exact Kd.R_mono HO250.out (fun k_ h_ h2_ => h_ (h2_.trans ((fun (A_ : Option Addr) (n_ m_ c_ : Nat) => (show (Value.slice A_ n_ c_).ownBlock = (Value.slice A_ m_ c_).ownBlock by cases A_ <;> rfl)) _ _ _ _))))⟩, ⟨by (with_reducible repeat (first | apply Kd.R_alloc | apply Kd.R_drewN | apply Kd.R_drew)); (first | exact HO252.out | exact Kd.R_mono HO252.out (fun k_ h_ h2_ => h_ (h2_.trans ((fun (A_ : Option Addr) (n_ m_ c_ : Nat) => (show (Value.slice A_ n_ c_).ownBlock = (Value.slice A_ m_ c_).ownBlock by cases A_ <;> rfl)) _ _ _ _))))⟩, ⟨by (with_reducible repeat (first | apply Kd.R_alloc | apply Kd.R_drewN | apply Kd.R_drew)); (first | exact HO254.out | exact Kd.R_mono HO254.out (fun k_ h_ h2_ => h_ (h2_.trans ((fun (A_ : Option Addr) (n_ m_ c_ : Nat) => (show (Value.slice A_ n_ c_).ownBlock = (Value.slice A_ m_ c_).ownBlock by cases A_ <;> rfl)) _ _ _ _))))⟩, ⟨belNow⟩⟩
 case round =>
  clear H'
  try clear c1
  try clear p2
  try clear c4
  obtain ⟨x7_1, x11_1, rfl, HA, HK1, HO_7, HO_8, HO_9, HB⟩ := hrel
  cases gk with
  | zero => exact absurd HA.out (by simp [selvagelaw17_ApplyOwn.l0])
  | succ k1 =>
   have H := HA.out
   clear HA
   simp only [selvagelaw17_ApplyOwn.l0] at H
   by_cases c6 : x11_1 < (x7_1.length : Int)
   ·rw [if_pos c6] at H
    have c6b0 : decide (x11_1 < (x7_1.length : Int)) = true := decide_eq_true c6
    clear c6
    by_cases c7 : 0 ≤ x11_1
    ·rw [if_pos c7] at H
     have c7b0 : decide (0 ≤ x11_1) = true := decide_eq_true c7
     clear c7
     obtain ⟨y255, hy255⟩ : ∃ y_ : List ByteArray, y_ = (x7_1.set (x11_1 : Int).toNat (⟨#[115, 112, 111, 105, 108, 116]⟩ : ByteArray)) := ⟨_, rfl⟩
     replace H : (selvagelaw17_ApplyOwn.l0 k1 l0 l1 a2 y255 t246 t247 (wrap64 (x11_1 + 1))) = some r := by first | (rw [hy255]; with_reducible exact H) | (have H2_ := (Option.bind_some _ _).symm.trans H; rw [hy255]; with_reducible exact H2_) | (have H2_ := (Option.bind_some _ _).symm.trans H; with_reducible exact H2_) | with_reducible exact H | (rw [hy255]; exact H) | exact H
     have Ny255 := Aside0.mk hy255
     clear hy255
     have H' := Aside0.mk H
     clear H
     obtain ⟨Ao9, co9, eo9⟩ := Kd.R_slice HO_7.out
     subst eo9
     have p8 : 0 ≤ (x11_1 : Int) := ofDec
     have q8 : (x11_1 : Int) < ((x7_1.length : Int) : Int) := ofDec
     obtain ⟨go8, co8, eo8, gb8, gl8, cl8, HG8⟩ := Kd.R_form HO_7.out (by omega)
     (first | cases eo8 | (injection eo8 with ea_ en_ ec_; (first | subst ea_ | (injection ea_ with ea_; subst ea_)); subst ec_; clear en_))
     have GB8 := Aside0.mk gb8
     have GG8 := Aside0.mk HG8
     clear gb8 gl8 HG8
     obtain ⟨hx8_0, hf8_0⟩ := Kd.R_celln (⟨#[]⟩ : ByteArray) HO_7.out (x11_1 : Int) p8 q8
     replace p8 := eq_true p8
     replace q8 := eq_true q8
     have HP10 := Kd.R_putg HO_7.out (x11_1 : Int) (⟨#[115, 112, 111, 105, 108, 116]⟩ : ByteArray)
     go_wp2_with (first | ((with_reducible refine gate_store (t := 9) (p := 40) rfl ?_); (try (rw [drewN_self wr]; generalize hq_ : World.drewN wr _ = wr; have n0_ := Aside0.mk (Kd.R_at hq_ HO_7.out); have n1_ := Aside0.mk (Kd.R_at hq_ HO_8.out); have n2_ := Aside0.mk (Kd.R_at hq_ HO_9.out); have n3_ := Aside0.mk (below_at hq_ HB.out); clear hq_ HO_7 HO_8 HO_9 HB; have HO_7 := n0_; have HO_8 := n1_; have HO_9 := n2_; have HB := n3_; clear n0_ n1_ n2_ n3_; (try (have HP10 := Kd.R_putg HO_7.out (x11_1 : Int) (⟨#[115, 112, 111, 105, 108, 116]⟩ : ByteArray))))); refine store_event (t := 9) (p := 40) (v := ?vo_w11) (w1 := (wr.setCell ⟨go8, (x11_1 : Int).toNat, none⟩ (.string (⟨#[115, 112, 111, 105, 108, 116]⟩ : ByteArray)))) ?hg ?ho ?hn ?hr ?_; (case ho => rfl); (case hg => rfl); (case hn => rfl); (case hr => first | (go_simp; done) | (go_simp; rfl)); intro w11 hw; have hg : wr.grownBy w11 (some go8) := (by rw [hw]; exact HP10.2); have hp_ : Kd.R Kd.string 9 w11 w.heap.size (fun _ => True) (.slice (some ⟨go8, 0, none⟩) x7_1.length co9) y255 := (by rw [hw, Ny255.out]; exact HP10.1); clear HP10; have n0_ := Aside0.mk (hp_); have n1_ := Aside0.mk (Kd.R_over' (v := (.slice (some ⟨go8, 0, none⟩) x7_1.length co9)) (kdUp HO_8.out) (Kd.R_typed HO_7.out) (by decide) hg); have n2_ := Aside0.mk (Kd.R_over' (v := (.slice (some ⟨go8, 0, none⟩) x7_1.length co9)) (kdUp HO_9.out) (Kd.R_typed HO_7.out) (by decide) hg); have n3_ := Aside0.mk ((by rw [hw]; exact below_set (HB.out) GB8.out : Below w.heap.size w w11)); clear HO_7; clear HO_8; clear HO_9; clear HB; have HO_7 := n0_; have HO_8 := n1_; have HO_9 := n2_; have HB := n3_; clear n0_ n1_ n2_ n3_; clear hg hw hp_))
     repeat (go_quiet (first | ((with_reducible refine gate_store (t := 9) (p := 40) rfl ?_); (try (rw [drewN_self wr]; generalize hq_ : World.drewN wr _ = wr; have n0_ := Aside0.mk (Kd.R_at hq_ HO_7.out); have n1_ := Aside0.mk (Kd.R_at hq_ HO_8.out); have n2_ := Aside0.mk (Kd.R_at hq_ HO_9.out); have n3_ := Aside0.mk (below_at hq_ HB.out); clear hq_ HO_7 HO_8 HO_9 HB; have HO_7 := n0_; have HO_8 := n1_; have HO_9 := n2_; have HB := n3_; clear n0_ n1_ n2_ n3_; (try (have HP10 := Kd.R_putg HO_7.out (x11_1 : Int) (⟨#[115, 112, 111, 105, 108, 116]⟩ : ByteArray))))); refine store_event (t := 9) (p := 40) (v := ?vo_w11) (w1 := (wr.setCell ⟨go8, (x11_1 : Int).toNat, none⟩ (.string (⟨#[115, 112, 111, 105, 108, 116]⟩ : ByteArray)))) ?hg ?ho ?hn ?hr ?_; (case ho => rfl); (case hg => rfl); (case hn => rfl); (case hr => first | (go_simp; done) | (go_simp; rfl)); intro w11 hw; have hg : wr.grownBy w11 (some go8) := (by rw [hw]; exact HP10.2); have hp_ : Kd.R Kd.string 9 w11 w.heap.size (fun _ => True) (.slice (some ⟨go8, 0, none⟩) x7_1.length co9) y255 := (by rw [hw, Ny255.out]; exact HP10.1); clear HP10; have n0_ := Aside0.mk (hp_); have n1_ := Aside0.mk (Kd.R_over' (v := (.slice (some ⟨go8, 0, none⟩) x7_1.length co9)) (kdUp HO_8.out) (Kd.R_typed HO_7.out) (by decide) hg); have n2_ := Aside0.mk (Kd.R_over' (v := (.slice (some ⟨go8, 0, none⟩) x7_1.length co9)) (kdUp HO_9.out) (Kd.R_typed HO_7.out) (by decide) hg); have n3_ := Aside0.mk ((by rw [hw]; exact below_set (HB.out) GB8.out : Below w.heap.size w w11)); clear HO_7; clear HO_8; clear HO_9; clear HB; have HO_7 := n0_; have HO_8 := n1_; have HO_9 := n2_; have HB := n3_; clear n0_ n1_ n2_ n3_; clear hg hw hp_)); try go_wp2_with (first | ((with_reducible refine gate_store (t := 9) (p := 40) rfl ?_); (try (rw [drewN_self wr]; generalize hq_ : World.drewN wr _ = wr; have n0_ := Aside0.mk (Kd.R_at hq_ HO_7.out); have n1_ := Aside0.mk (Kd.R_at hq_ HO_8.out); have n2_ := Aside0.mk (Kd.R_at hq_ HO_9.out); have n3_ := Aside0.mk (below_at hq_ HB.out); clear hq_ HO_7 HO_8 HO_9 HB; have HO_7 := n0_; have HO_8 := n1_; have HO_9 := n2_; have HB := n3_; clear n0_ n1_ n2_ n3_; (try (have HP10 := Kd.R_putg HO_7.out (x11_1 : Int) (⟨#[115, 112, 111, 105, 108, 116]⟩ : ByteArray))))); refine store_event (t := 9) (p := 40) (v := ?vo_w11) (w1 := (wr.setCell ⟨go8, (x11_1 : Int).toNat, none⟩ (.string (⟨#[115, 112, 111, 105, 108, 116]⟩ : ByteArray)))) ?hg ?ho ?hn ?hr ?_; (case ho => rfl); (case hg => rfl); (case hn => rfl); (case hr => first | (go_simp; done) | (go_simp; rfl)); intro w11 hw; have hg : wr.grownBy w11 (some go8) := (by rw [hw]; exact HP10.2); have hp_ : Kd.R Kd.string 9 w11 w.heap.size (fun _ => True) (.slice (some ⟨go8, 0, none⟩) x7_1.length co9) y255 := (by rw [hw, Ny255.out]; exact HP10.1); clear HP10; have n0_ := Aside0.mk (hp_); have n1_ := Aside0.mk (Kd.R_over' (v := (.slice (some ⟨go8, 0, none⟩) x7_1.length co9)) (kdUp HO_8.out) (Kd.R_typed HO_7.out) (by decide) hg); have n2_ := Aside0.mk (Kd.R_over' (v := (.slice (some ⟨go8, 0, none⟩) x7_1.length co9)) (kdUp HO_9.out) (Kd.R_typed HO_7.out) (by decide) hg); have n3_ := Aside0.mk ((by rw [hw]; exact below_set (HB.out) GB8.out : Below w.heap.size w w11)); clear HO_7; clear HO_8; clear HO_9; clear HB; have HO_7 := n0_; have HO_8 := n1_; have HO_9 := n2_; have HB := n3_; clear n0_ n1_ n2_ n3_; clear hg hw hp_)))
     go_roundg k1
     case measure => have := HK1.out; omega
     case rel => exact ⟨(y255), (wrap64 (x11_1 + 1)), eqNow, H', ⟨by have := HK1.out; omega⟩, ⟨by (with_reducible repeat (first | apply Kd.R_alloc | apply Kd.R_drewN | apply Kd.R_drew)); (first | exact HO_7.out | exact Kd.R_mono HO_7.out (fun k_ h_ h2_ => h_ (h2_.trans ((fun (A_ : Option Addr) (n_ m_ c_ : Nat) => (show (Value.slice A_ n_ c_).ownBlock = (Value.slice A_ m_ c_).ownBlock by cases A_ <;> rfl)) _ _ _ _))))⟩, ⟨by (with_reducible repeat (first | apply Kd.R_alloc | apply Kd.R_drewN | apply Kd.R_drew)); (first | exact HO_8.out | exact Kd.R_mono HO_8.out (fun k_ h_ h2_ => h_ (h2_.trans ((fun (A_ : Option Addr) (n_ m_ c_ : Nat) => (show (Value.slice A_ n_ c_).ownBlock = (Value.slice A_ m_ c_).ownBlock by cases A_ <;> rfl)) _ _ _ _))))⟩, ⟨by (with_reducible repeat (first | apply Kd.R_alloc | apply Kd.R_drewN | apply Kd.R_drew)); (first | exact HO_9.out | exact Kd.R_mono HO_9.out (fun k_ h_ h2_ => h_ (h2_.trans ((fun (A_ : Option Addr) (n_ m_ c_ : Nat) => (show (Value.slice A_ n_ c_).ownBlock = (Value.slice A_ m_ c_).ownBlock by cases A_ <;> rfl)) _ _ _ _))))⟩, ⟨belNow⟩⟩
    ·rw [if_neg c7] at H
     exact absurd H (by simp)
   ·rw [if_neg c6] at H
    have c6b0 : decide (x11_1 < (x7_1.length : Int)) = false := decide_eq_false c6
    clear c6
    have H' := Aside0.mk H
    clear H
    obtain ⟨Ao12, co12, eo12⟩ := Kd.R_slice HO_7.out
    subst eo12
    go_wp2
    repeat (go_quiet (fail); try go_wp2)
    go_loopg [12] k1 (fun kq v12 w' => ∃ (x8_2 : List (S38)) (x12_2 : Int), v12 = .int .i64 x12_2 ∧ Aside0 (selvagelaw17_ApplyOwn.l1 kq l0 l1 a2 x7_1 x8_2 t247 x12_2 = some r) ∧ Aside0 (kq ≤ k1) ∧ Aside0 (Kd.R Kd.string 9 w' w.heap.size (fun _ => True) (.slice Ao12 x7_1.length co12) x7_1) ∧ Aside0 (Kd.R k38 38 w' w.heap.size (fun _ => True) v251 x8_2) ∧ Aside0 (Kd.R (Kd.int .i64) 3 w' w.heap.size (fun _ => True) v253 t247) ∧ Aside0 (Below w.heap.size w w'))
    case atStart => exact ⟨(t246), (0), eqNow, H', ⟨Nat.le_refl _⟩, ⟨by (with_reducible repeat (first | apply Kd.R_alloc | apply Kd.R_drewN | apply Kd.R_drew)); (first | exact HO_7.out | exact Kd.R_mono HO_7.out (fun k_ h_ h2_ => h_ (h2_.trans ((fun (A_ : Option Addr) (n_ m_ c_ : Nat) => (show (Value.slice A_ n_ c_).ownBlock = (Value.slice A_ m_ c_).ownBlock by cases A_ <;> rfl)) _ _ _ _))))⟩, ⟨by (with_reducible repeat (first | apply Kd.R_alloc | apply Kd.R_drewN | apply Kd.R_drew)); (first | exact HO_8.out | exact Kd.R_mono HO_8.out (fun k_ h_ h2_ => h_ (h2_.trans ((fun (A_ : Option Addr) (n_ m_ c_ : Nat) => (show (Value.slice A_ n_ c_).ownBlock = (Value.slice A_ m_ c_).ownBlock by cases A_ <;> rfl)) _ _ _ _))))⟩, ⟨by (with_reducible repeat (first | apply Kd.R_alloc | apply Kd.R_drewN | apply Kd.R_drew)); (first | exact HO_9.out | exact Kd.R_mono HO_9.out (fun k_ h_ h2_ => h_ (h2_.trans ((fun (A_ : Option Addr) (n_ m_ c_ : Nat) => (show (Value.slice A_ n_ c_).ownBlock = (Value.slice A_ m_ c_).ownBlock by cases A_ <;> rfl)) _ _ _ _))))⟩, ⟨belNow⟩⟩
    case round =>
     clear H'
     try clear c1
     try clear p2
     try clear c4
     try clear c6
     try clear c6b0
     try clear p6
     try clear c7
     try clear c7b0
     try clear p8
     try clear q8
     try clear hx8
     try clear hf8
     try clear hx8_0
     try clear p2
     try clear p8
     try clear q8
     obtain ⟨x8_2, x12_2, rfl, HA, HK2, HO_7, HO_8, HO_9, HB⟩ := hrel
     cases gk with
     | zero => exact absurd HA.out (by simp [selvagelaw17_ApplyOwn.l1])
     | succ k2 =>
      have H := HA.out
      clear HA
      simp only [selvagelaw17_ApplyOwn.l1] at H
      by_cases c13 : x12_2 < (x8_2.length : Int)
      ·rw [if_pos c13] at H
       have c13b0 : decide (x12_2 < (x8_2.length : Int)) = true := decide_eq_true c13
       clear c13
       by_cases c14 : 0 ≤ x12_2
       ·rw [if_pos c14] at H
        have c14b0 : decide (0 ≤ x12_2) = true := decide_eq_true c14
        clear c14
        obtain ⟨y256, hy256⟩ : ∃ y_ : List (S38), y_ = (x8_2.set (x12_2 : Int).toNat (⟨(-7), 0, 0, 0⟩ : S38)) := ⟨_, rfl⟩
        replace H : (selvagelaw17_ApplyOwn.l1 k2 l0 l1 a2 x7_1 y256 t247 (wrap64 (x12_2 + 1))) = some r := by first | (rw [hy256]; with_reducible exact H) | (have H2_ := (Option.bind_some _ _).symm.trans H; rw [hy256]; with_reducible exact H2_) | (have H2_ := (Option.bind_some _ _).symm.trans H; with_reducible exact H2_) | with_reducible exact H | (rw [hy256]; exact H) | exact H
        have Ny256 := Aside0.mk hy256
        clear hy256
        have H' := Aside0.mk H
        clear H
        obtain ⟨Ao16, co16, eo16⟩ := Kd.R_slice HO_8.out
        subst eo16
        have p15 : 0 ≤ (x12_2 : Int) := ofDec
        have q15 : (x12_2 : Int) < ((x8_2.length : Int) : Int) := ofDec
        obtain ⟨go15, co15, eo15, gb15, gl15, cl15, HG15⟩ := Kd.R_form HO_8.out (by omega)
        (first | cases eo15 | (injection eo15 with ea_ en_ ec_; (first | subst ea_ | (injection ea_ with ea_; subst ea_)); subst ec_; clear en_))
        have GB15 := Aside0.mk gb15
        have GG15 := Aside0.mk HG15
        clear gb15 gl15 HG15
        obtain ⟨ce15, hcl15, hM15, hcc15, hfr15⟩ := Kd.R_elem HO_8.out z38 (x12_2 : Int) p15 q15
        obtain rfl := k38_openM hM15
        have hx15_0 : wr.cell? ⟨go15, (x12_2 : Int).toNat * 4, none⟩ = some (.int .i64 ((rd_T38 x8_2 x12_2).f0)) := hcc15 0 _ rfl
        have hx15_1 : wr.cell? ⟨go15, (x12_2 : Int).toNat * 4 + 1, none⟩ = some (.int .i64 ((rd_T38 x8_2 x12_2).f1)) := hcc15 1 _ rfl
        have hx15_2 : wr.cell? ⟨go15, (x12_2 : Int).toNat * 4 + 2, none⟩ = some (.int .i64 ((rd_T38 x8_2 x12_2).f2)) := hcc15 2 _ rfl
        have hx15_3 : wr.cell? ⟨go15, (x12_2 : Int).toNat * 4 + 3, none⟩ = some (.int .i64 ((rd_T38 x8_2 x12_2).f3)) := hcc15 3 _ rfl
        have hf15_0 : wr.frozen? ⟨go15, (x12_2 : Int).toNat * 4, none⟩ = false := hfr15 0
        have hf15_1 : wr.frozen? ⟨go15, (x12_2 : Int).toNat * 4 + 1, none⟩ = false := hfr15 1
        have hf15_2 : wr.frozen? ⟨go15, (x12_2 : Int).toNat * 4 + 2, none⟩ = false := hfr15 2
        have hf15_3 : wr.frozen? ⟨go15, (x12_2 : Int).toNat * 4 + 3, none⟩ = false := hfr15 3
        clear hcl15 hcc15 hfr15 hM15
        replace p15 := eq_true p15
        replace q15 := eq_true q15
        have HX17 := Aside0.mk (show Kd.R k38 38 wr w.heap.size (fun _ => True) (.slice (some ⟨go15, 0, none⟩) x8_2.length co16) x8_2 from (kdUp HO_8.out))
        obtain ⟨ce17, hcl17, hM17, hcc17, hfr17⟩ := Kd.R_elem HX17.out z38 (x12_2 : Int) (ofDec) (by have h_ : (x12_2 : Int) < ((x8_2.length : Int) : Int) := ofDec; first | exact h_ | (have e_ := (Kd.R_reads' HO_8.out).1; omega) | simpa using h_)
        obtain rfl := k38_openM hM17
        have HP17 := Kd.R_seg HX17.out (x12_2 : Int) (ofDec) (by have h_ : (x12_2 : Int) < ((x8_2.length : Int) : Int) := ofDec; first | exact h_ | (have e_ := (Kd.R_reads' HO_8.out).1; omega) | simpa using h_) (seg := [.int .i64 (-7), .int .i64 0, .int .i64 0, .int .i64 0]) (j := 0) hcl17 hcc17 (show 4 ≤ 4 from by decide) (x' := (⟨(-7), 0, 0, 0⟩ : S38)) (k38_mkM _ _ _ (⟨(-7), 0, 0, 0⟩ : S38) ) (fun _ hk => hk)
        have hx17_0 := hcc17 0 _ rfl
        (try simp only [show (k38).sz = 4 from rfl, Nat.mul_one, Nat.add_zero] at hx17_0)
        have hf17_0 := hfr17 0
        (try simp only [show (k38).sz = 4 from rfl, Nat.mul_one, Nat.add_zero] at hf17_0)
        have hx17_1 := hcc17 1 _ rfl
        (try simp only [show (k38).sz = 4 from rfl, Nat.mul_one, Nat.add_zero] at hx17_1)
        have hf17_1 := hfr17 1
        (try simp only [show (k38).sz = 4 from rfl, Nat.mul_one, Nat.add_zero] at hf17_1)
        have hx17_2 := hcc17 2 _ rfl
        (try simp only [show (k38).sz = 4 from rfl, Nat.mul_one, Nat.add_zero] at hx17_2)
        have hf17_2 := hfr17 2
        (try simp only [show (k38).sz = 4 from rfl, Nat.mul_one, Nat.add_zero] at hf17_2)
        have hx17_3 := hcc17 3 _ rfl
        (try simp only [show (k38).sz = 4 from rfl, Nat.mul_one, Nat.add_zero] at hx17_3)
        have hf17_3 := hfr17 3
        (try simp only [show (k38).sz = 4 from rfl, Nat.mul_one, Nat.add_zero] at hf17_3)
        clear hcl17 hcc17 hfr17 hM17
        go_wp2_with (first | ((with_reducible refine gate_store (t := 38) (p := 50) rfl ?_); (try (rw [drewN_self wr]; generalize hq_ : World.drewN wr _ = wr; have n0_ := Aside0.mk (Kd.R_at hq_ HO_7.out); have n1_ := Aside0.mk (Kd.R_at hq_ HO_8.out); have n2_ := Aside0.mk (Kd.R_at hq_ HO_9.out); have n3_ := Aside0.mk (below_at hq_ HB.out); clear hq_ HO_7 HO_8 HO_9 HB; have HO_7 := n0_; have HO_8 := n1_; have HO_9 := n2_; have HB := n3_; clear n0_ n1_ n2_ n3_; (try (have HX17 := Aside0.mk (show Kd.R k38 38 wr w.heap.size (fun _ => True) (.slice (some ⟨go15, 0, none⟩) x8_2.length co16) x8_2 from (kdUp HO_8.out)))); (try (obtain ⟨ce17, hcl17, hM17, hcc17, hfr17⟩ := Kd.R_elem HX17.out z38 (x12_2 : Int) (ofDec) (by have h_ : (x12_2 : Int) < ((x8_2.length : Int) : Int) := ofDec; first | exact h_ | (have e_ := (Kd.R_reads' HO_8.out).1; omega) | simpa using h_))); (try (obtain rfl := k38_openM hM17)); (try (have HP17 := Kd.R_seg HX17.out (x12_2 : Int) (ofDec) (by have h_ : (x12_2 : Int) < ((x8_2.length : Int) : Int) := ofDec; first | exact h_ | (have e_ := (Kd.R_reads' HO_8.out).1; omega) | simpa using h_) (seg := [.int .i64 (-7), .int .i64 0, .int .i64 0, .int .i64 0]) (j := 0) hcl17 hcc17 (show 4 ≤ 4 from by decide) (x' := (⟨(-7), 0, 0, 0⟩ : S38)) (k38_mkM _ _ _ (⟨(-7), 0, 0, 0⟩ : S38) ) (fun _ hk => hk))); (try (have hx17_0 := hcc17 0 _ rfl)); (try (try simp only [show (k38).sz = 4 from rfl, Nat.mul_one, Nat.add_zero] at hx17_0)); (try (have hf17_0 := hfr17 0)); (try (try simp only [show (k38).sz = 4 from rfl, Nat.mul_one, Nat.add_zero] at hf17_0)); (try (have hx17_1 := hcc17 1 _ rfl)); (try (try simp only [show (k38).sz = 4 from rfl, Nat.mul_one, Nat.add_zero] at hx17_1)); (try (have hf17_1 := hfr17 1)); (try (try simp only [show (k38).sz = 4 from rfl, Nat.mul_one, Nat.add_zero] at hf17_1)); (try (have hx17_2 := hcc17 2 _ rfl)); (try (try simp only [show (k38).sz = 4 from rfl, Nat.mul_one, Nat.add_zero] at hx17_2)); (try (have hf17_2 := hfr17 2)); (try (try simp only [show (k38).sz = 4 from rfl, Nat.mul_one, Nat.add_zero] at hf17_2)); (try (have hx17_3 := hcc17 3 _ rfl)); (try (try simp only [show (k38).sz = 4 from rfl, Nat.mul_one, Nat.add_zero] at hx17_3)); (try (have hf17_3 := hfr17 3)); (try (try simp only [show (k38).sz = 4 from rfl, Nat.mul_one, Nat.add_zero] at hf17_3)); (try (clear hcl17 hcc17 hfr17 hM17)))); refine store_event (t := 38) (p := 50) (v := ?vo_w18) (w1 := ((((wr.setCell ⟨go15, (x12_2 : Int).toNat * 4, none⟩ (.int .i64 (-7))).setCell ⟨go15, (x12_2 : Int).toNat * 4 + 1, none⟩ (.int .i64 0)).setCell ⟨go15, (x12_2 : Int).toNat * 4 + 2, none⟩ (.int .i64 0)).setCell ⟨go15, (x12_2 : Int).toNat * 4 + 3, none⟩ (.int .i64 0))) ?hg ?ho ?hn ?hr ?_; (case ho => rfl); (case hg => rfl); (case hn => rfl); (case hr => first | (go_simp; done) | (go_simp; rfl)); intro w18 hw; have hg : wr.grownBy w18 (some go15) := (by rw [hw]; exact HP17.2); have hp_ : Kd.R k38 38 w18 w.heap.size (fun _ => True) (.slice (some ⟨go15, 0, none⟩) x8_2.length co16) y256 := (by rw [hw, Ny256.out]; exact HP17.1); clear HP17; have n0_ := Aside0.mk (Kd.R_over' (v := (.slice (some ⟨go15, 0, none⟩) x8_2.length co16)) (kdUp HO_7.out) (Kd.R_typed HO_8.out) (by decide) hg); have n1_ := Aside0.mk (hp_); have n2_ := Aside0.mk (Kd.R_over' (v := (.slice (some ⟨go15, 0, none⟩) x8_2.length co16)) (kdUp HO_9.out) (Kd.R_typed HO_8.out) (by decide) hg); have n3_ := Aside0.mk ((by rw [hw]; exact below_set (below_set (below_set (below_set (HB.out) GB15.out) GB15.out) GB15.out) GB15.out : Below w.heap.size w w18)); clear HO_7; clear HO_8; clear HO_9; clear HB; have HO_7 := n0_; have HO_8 := n1_; have HO_9 := n2_; have HB := n3_; clear n0_ n1_ n2_ n3_; clear hg hw hp_))
        repeat (go_quiet (first | ((with_reducible refine gate_store (t := 38) (p := 50) rfl ?_); (try (rw [drewN_self wr]; generalize hq_ : World.drewN wr _ = wr; have n0_ := Aside0.mk (Kd.R_at hq_ HO_7.out); have n1_ := Aside0.mk (Kd.R_at hq_ HO_8.out); have n2_ := Aside0.mk (Kd.R_at hq_ HO_9.out); have n3_ := Aside0.mk (below_at hq_ HB.out); clear hq_ HO_7 HO_8 HO_9 HB; have HO_7 := n0_; have HO_8 := n1_; have HO_9 := n2_; have HB := n3_; clear n0_ n1_ n2_ n3_; (try (have HX17 := Aside0.mk (show Kd.R k38 38 wr w.heap.size (fun _ => True) (.slice (some ⟨go15, 0, none⟩) x8_2.length co16) x8_2 from (kdUp HO_8.out)))); (try (obtain ⟨ce17, hcl17, hM17, hcc17, hfr17⟩ := Kd.R_elem HX17.out z38 (x12_2 : Int) (ofDec) (by have h_ : (x12_2 : Int) < ((x8_2.length : Int) : Int) := ofDec; first | exact h_ | (have e_ := (Kd.R_reads' HO_8.out).1; omega) | simpa using h_))); (try (obtain rfl := k38_openM hM17)); (try (have HP17 := Kd.R_seg HX17.out (x12_2 : Int) (ofDec) (by have h_ : (x12_2 : Int) < ((x8_2.length : Int) : Int) := ofDec; first | exact h_ | (have e_ := (Kd.R_reads' HO_8.out).1; omega) | simpa using h_) (seg := [.int .i64 (-7), .int .i64 0, .int .i64 0, .int .i64 0]) (j := 0) hcl17 hcc17 (show 4 ≤ 4 from by decide) (x' := (⟨(-7), 0, 0, 0⟩ : S38)) (k38_mkM _ _ _ (⟨(-7), 0, 0, 0⟩ : S38) ) (fun _ hk => hk))); (try (have hx17_0 := hcc17 0 _ rfl)); (try (try simp only [show (k38).sz = 4 from rfl, Nat.mul_one, Nat.add_zero] at hx17_0)); (try (have hf17_0 := hfr17 0)); (try (try simp only [show (k38).sz = 4 from rfl, Nat.mul_one, Nat.add_zero] at hf17_0)); (try (have hx17_1 := hcc17 1 _ rfl)); (try (try simp only [show (k38).sz = 4 from rfl, Nat.mul_one, Nat.add_zero] at hx17_1)); (try (have hf17_1 := hfr17 1)); (try (try simp only [show (k38).sz = 4 from rfl, Nat.mul_one, Nat.add_zero] at hf17_1)); (try (have hx17_2 := hcc17 2 _ rfl)); (try (try simp only [show (k38).sz = 4 from rfl, Nat.mul_one, Nat.add_zero] at hx17_2)); (try (have hf17_2 := hfr17 2)); (try (try simp only [show (k38).sz = 4 from rfl, Nat.mul_one, Nat.add_zero] at hf17_2)); (try (have hx17_3 := hcc17 3 _ rfl)); (try (try simp only [show (k38).sz = 4 from rfl, Nat.mul_one, Nat.add_zero] at hx17_3)); (try (have hf17_3 := hfr17 3)); (try (try simp only [show (k38).sz = 4 from rfl, Nat.mul_one, Nat.add_zero] at hf17_3)); (try (clear hcl17 hcc17 hfr17 hM17)))); refine store_event (t := 38) (p := 50) (v := ?vo_w18) (w1 := ((((wr.setCell ⟨go15, (x12_2 : Int).toNat * 4, none⟩ (.int .i64 (-7))).setCell ⟨go15, (x12_2 : Int).toNat * 4 + 1, none⟩ (.int .i64 0)).setCell ⟨go15, (x12_2 : Int).toNat * 4 + 2, none⟩ (.int .i64 0)).setCell ⟨go15, (x12_2 : Int).toNat * 4 + 3, none⟩ (.int .i64 0))) ?hg ?ho ?hn ?hr ?_; (case ho => rfl); (case hg => rfl); (case hn => rfl); (case hr => first | (go_simp; done) | (go_simp; rfl)); intro w18 hw; have hg : wr.grownBy w18 (some go15) := (by rw [hw]; exact HP17.2); have hp_ : Kd.R k38 38 w18 w.heap.size (fun _ => True) (.slice (some ⟨go15, 0, none⟩) x8_2.length co16) y256 := (by rw [hw, Ny256.out]; exact HP17.1); clear HP17; have n0_ := Aside0.mk (Kd.R_over' (v := (.slice (some ⟨go15, 0, none⟩) x8_2.length co16)) (kdUp HO_7.out) (Kd.R_typed HO_8.out) (by decide) hg); have n1_ := Aside0.mk (hp_); have n2_ := Aside0.mk (Kd.R_over' (v := (.slice (some ⟨go15, 0, none⟩) x8_2.length co16)) (kdUp HO_9.out) (Kd.R_typed HO_8.out) (by decide) hg); have n3_ := Aside0.mk ((by rw [hw]; exact below_set (below_set (below_set (below_set (HB.out) GB15.out) GB15.out) GB15.out) GB15.out : Below w.heap.size w w18)); clear HO_7; clear HO_8; clear HO_9; clear HB; have HO_7 := n0_; have HO_8 := n1_; have HO_9 := n2_; have HB := n3_; clear n0_ n1_ n2_ n3_; clear hg hw hp_)); try go_wp2_with (first | ((with_reducible refine gate_store (t := 38) (p := 50) rfl ?_); (try (rw [drewN_self wr]; generalize hq_ : World.drewN wr _ = wr; have n0_ := Aside0.mk (Kd.R_at hq_ HO_7.out); have n1_ := Aside0.mk (Kd.R_at hq_ HO_8.out); have n2_ := Aside0.mk (Kd.R_at hq_ HO_9.out); have n3_ := Aside0.mk (below_at hq_ HB.out); clear hq_ HO_7 HO_8 HO_9 HB; have HO_7 := n0_; have HO_8 := n1_; have HO_9 := n2_; have HB := n3_; clear n0_ n1_ n2_ n3_; (try (have HX17 := Aside0.mk (show Kd.R k38 38 wr w.heap.size (fun _ => True) (.slice (some ⟨go15, 0, none⟩) x8_2.length co16) x8_2 from (kdUp HO_8.out)))); (try (obtain ⟨ce17, hcl17, hM17, hcc17, hfr17⟩ := Kd.R_elem HX17.out z38 (x12_2 : Int) (ofDec) (by have h_ : (x12_2 : Int) < ((x8_2.length : Int) : Int) := ofDec; first | exact h_ | (have e_ := (Kd.R_reads' HO_8.out).1; omega) | simpa using h_))); (try (obtain rfl := k38_openM hM17)); (try (have HP17 := Kd.R_seg HX17.out (x12_2 : Int) (ofDec) (by have h_ : (x12_2 : Int) < ((x8_2.length : Int) : Int) := ofDec; first | exact h_ | (have e_ := (Kd.R_reads' HO_8.out).1; omega) | simpa using h_) (seg := [.int .i64 (-7), .int .i64 0, .int .i64 0, .int .i64 0]) (j := 0) hcl17 hcc17 (show 4 ≤ 4 from by decide) (x' := (⟨(-7), 0, 0, 0⟩ : S38)) (k38_mkM _ _ _ (⟨(-7), 0, 0, 0⟩ : S38) ) (fun _ hk => hk))); (try (have hx17_0 := hcc17 0 _ rfl)); (try (try simp only [show (k38).sz = 4 from rfl, Nat.mul_one, Nat.add_zero] at hx17_0)); (try (have hf17_0 := hfr17 0)); (try (try simp only [show (k38).sz = 4 from rfl, Nat.mul_one, Nat.add_zero] at hf17_0)); (try (have hx17_1 := hcc17 1 _ rfl)); (try (try simp only [show (k38).sz = 4 from rfl, Nat.mul_one, Nat.add_zero] at hx17_1)); (try (have hf17_1 := hfr17 1)); (try (try simp only [show (k38).sz = 4 from rfl, Nat.mul_one, Nat.add_zero] at hf17_1)); (try (have hx17_2 := hcc17 2 _ rfl)); (try (try simp only [show (k38).sz = 4 from rfl, Nat.mul_one, Nat.add_zero] at hx17_2)); (try (have hf17_2 := hfr17 2)); (try (try simp only [show (k38).sz = 4 from rfl, Nat.mul_one, Nat.add_zero] at hf17_2)); (try (have hx17_3 := hcc17 3 _ rfl)); (try (try simp only [show (k38).sz = 4 from rfl, Nat.mul_one, Nat.add_zero] at hx17_3)); (try (have hf17_3 := hfr17 3)); (try (try simp only [show (k38).sz = 4 from rfl, Nat.mul_one, Nat.add_zero] at hf17_3)); (try (clear hcl17 hcc17 hfr17 hM17)))); refine store_event (t := 38) (p := 50) (v := ?vo_w18) (w1 := ((((wr.setCell ⟨go15, (x12_2 : Int).toNat * 4, none⟩ (.int .i64 (-7))).setCell ⟨go15, (x12_2 : Int).toNat * 4 + 1, none⟩ (.int .i64 0)).setCell ⟨go15, (x12_2 : Int).toNat * 4 + 2, none⟩ (.int .i64 0)).setCell ⟨go15, (x12_2 : Int).toNat * 4 + 3, none⟩ (.int .i64 0))) ?hg ?ho ?hn ?hr ?_; (case ho => rfl); (case hg => rfl); (case hn => rfl); (case hr => first | (go_simp; done) | (go_simp; rfl)); intro w18 hw; have hg : wr.grownBy w18 (some go15) := (by rw [hw]; exact HP17.2); have hp_ : Kd.R k38 38 w18 w.heap.size (fun _ => True) (.slice (some ⟨go15, 0, none⟩) x8_2.length co16) y256 := (by rw [hw, Ny256.out]; exact HP17.1); clear HP17; have n0_ := Aside0.mk (Kd.R_over' (v := (.slice (some ⟨go15, 0, none⟩) x8_2.length co16)) (kdUp HO_7.out) (Kd.R_typed HO_8.out) (by decide) hg); have n1_ := Aside0.mk (hp_); have n2_ := Aside0.mk (Kd.R_over' (v := (.slice (some ⟨go15, 0, none⟩) x8_2.length co16)) (kdUp HO_9.out) (Kd.R_typed HO_8.out) (by decide) hg); have n3_ := Aside0.mk ((by rw [hw]; exact below_set (below_set (below_set (below_set (HB.out) GB15.out) GB15.out) GB15.out) GB15.out : Below w.heap.size w w18)); clear HO_7; clear HO_8; clear HO_9; clear HB; have HO_7 := n0_; have HO_8 := n1_; have HO_9 := n2_; have HB := n3_; clear n0_ n1_ n2_ n3_; clear hg hw hp_)))
        go_roundg k2
        case measure => have := HK1.out; have := HK2.out; omega
        case rel => exact ⟨(y256), (wrap64 (x12_2 + 1)), eqNow, H', ⟨by have := HK1.out; have := HK2.out; omega⟩, ⟨by (with_reducible repeat (first | apply Kd.R_alloc | apply Kd.R_drewN | apply Kd.R_drew)); (first | exact HO_7.out | exact Kd.R_mono HO_7.out (fun k_ h_ h2_ => h_ (h2_.trans ((fun (A_ : Option Addr) (n_ m_ c_ : Nat) => (show (Value.slice A_ n_ c_).ownBlock = (Value.slice A_ m_ c_).ownBlock by cases A_ <;> rfl)) _ _ _ _))))⟩, ⟨by (with_reducible repeat (first | apply Kd.R_alloc | apply Kd.R_drewN | apply Kd.R_drew)); (first | exact HO_8.out | exact Kd.R_mono HO_8.out (fun k_ h_ h2_ => h_ (h2_.trans ((fun (A_ : Option Addr) (n_ m_ c_ : Nat) => (show (Value.slice A_ n_ c_).ownBlock = (Value.slice A_ m_ c_).ownBlock by cases A_ <;> rfl)) _ _ _ _))))⟩, ⟨by (with_reducible repeat (first | apply Kd.R_alloc | apply Kd.R_drewN | apply Kd.R_drew)); (first | exact HO_9.out | exact Kd.R_mono HO_9.out (fun k_ h_ h2_ => h_ (h2_.trans ((fun (A_ : Option Addr) (n_ m_ c_ : Nat) => (show (Value.slice A_ n_ c_).ownBlock = (Value.slice A_ m_ c_).ownBlock by cases A_ <;> rfl)) _ _ _ _))))⟩, ⟨belNow⟩⟩
       ·rw [if_neg c14] at H
        exact absurd H (by simp)
      ·rw [if_neg c13] at H
       have c13b0 : decide (x12_2 < (x8_2.length : Int)) = false := decide_eq_false c13
       clear c13
       have H' := Aside0.mk H
       clear H
       obtain ⟨Ao19, co19, eo19⟩ := Kd.R_slice HO_8.out
       subst eo19
       go_wp2
       repeat (go_quiet (fail); try go_wp2)
       go_loopg [13] k2 (fun kq v13 w' => ∃ (x9_3 : List Int) (x13_3 : Int), v13 = .int .i64 x13_3 ∧ Aside0 (selvagelaw17_ApplyOwn.l2 kq l0 l1 a2 x7_1 x9_3 x13_3 = some r) ∧ Aside0 (kq ≤ k2) ∧ Aside0 (Kd.R Kd.string 9 w' w.heap.size (fun _ => True) (.slice Ao12 x7_1.length co12) x7_1) ∧ Aside0 (Kd.R (Kd.int .i64) 3 w' w.heap.size (fun _ => True) v253 x9_3) ∧ Aside0 (Below w.heap.size w w'))
       case atStart => exact ⟨(t247), (0), eqNow, H', ⟨Nat.le_refl _⟩, ⟨by (with_reducible repeat (first | apply Kd.R_alloc | apply Kd.R_drewN | apply Kd.R_drew)); (first | exact HO_7.out | exact Kd.R_mono HO_7.out (fun k_ h_ h2_ => h_ (h2_.trans ((fun (A_ : Option Addr) (n_ m_ c_ : Nat) => (show (Value.slice A_ n_ c_).ownBlock = (Value.slice A_ m_ c_).ownBlock by cases A_ <;> rfl)) _ _ _ _))))⟩, ⟨by (with_reducible repeat (first | apply Kd.R_alloc | apply Kd.R_drewN | apply Kd.R_drew)); (first | exact HO_9.out | exact Kd.R_mono HO_9.out (fun k_ h_ h2_ => h_ (h2_.trans ((fun (A_ : Option Addr) (n_ m_ c_ : Nat) => (show (Value.slice A_ n_ c_).ownBlock = (Value.slice A_ m_ c_).ownBlock by cases A_ <;> rfl)) _ _ _ _))))⟩, ⟨belNow⟩⟩
       case round =>
        clear H'
        try clear c1
        try clear p1
        try clear q1
        try clear hx1
        try clear p2
        try clear c4
        try clear c6
        try clear c6b0
        try clear p6
        try clear c7
        try clear c7b0
        try clear p8
        try clear q8
        try clear hx8
        try clear hf8
        try clear c13
        try clear c13b0
        try clear c14
        try clear c14b0
        try clear c15
        try clear p15
        try clear q15
        try clear hx15
        try clear hf15
        try clear c17
        try clear hx17
        try clear hf17
        try clear hx15_0
        try clear hx15_1
        try clear hx15_2
        try clear hx15_3
        try clear hx17_0
        try clear hx17_1
        try clear hx17_2
        try clear hx17_3
        try clear hx8_0
        try clear p15
        try clear p2
        try clear p6
        try clear p8
        try clear q15
        try clear q8
        obtain ⟨x9_3, x13_3, rfl, HA, HK3, HO_7, HO_9, HB⟩ := hrel
        cases gk with
        | zero => exact absurd HA.out (by simp [selvagelaw17_ApplyOwn.l2])
        | succ k3 =>
         have H := HA.out
         clear HA
         simp only [selvagelaw17_ApplyOwn.l2] at H
         by_cases c20 : x13_3 < (x9_3.length : Int)
         ·rw [if_pos c20] at H
          have c20b0 : decide (x13_3 < (x9_3.length : Int)) = true := decide_eq_true c20
          clear c20
          by_cases c21 : 0 ≤ x13_3
          ·rw [if_pos c21] at H
           have c21b0 : decide (0 ≤ x13_3) = true := decide_eq_true c21
           clear c21
           obtain ⟨y257, hy257⟩ : ∃ y_ : List Int, y_ = (x9_3.set (x13_3 : Int).toNat (-7)) := ⟨_, rfl⟩
           replace H : (selvagelaw17_ApplyOwn.l2 k3 l0 l1 a2 x7_1 y257 (wrap64 (x13_3 + 1))) = some r := by first | (rw [hy257]; with_reducible exact H) | (have H2_ := (Option.bind_some _ _).symm.trans H; rw [hy257]; with_reducible exact H2_) | (have H2_ := (Option.bind_some _ _).symm.trans H; with_reducible exact H2_) | with_reducible exact H | (rw [hy257]; exact H) | exact H
           have Ny257 := Aside0.mk hy257
           clear hy257
           have H' := Aside0.mk H
           clear H
           obtain ⟨Ao23, co23, eo23⟩ := Kd.R_slice HO_9.out
           subst eo23
           have p22 : 0 ≤ (x13_3 : Int) := ofDec
           have q22 : (x13_3 : Int) < ((x9_3.length : Int) : Int) := ofDec
           obtain ⟨go22, co22, eo22, gb22, gl22, cl22, HG22⟩ := Kd.R_form HO_9.out (by omega)
           (first | cases eo22 | (injection eo22 with ea_ en_ ec_; (first | subst ea_ | (injection ea_ with ea_; subst ea_)); subst ec_; clear en_))
           have GB22 := Aside0.mk gb22
           have GG22 := Aside0.mk HG22
           clear gb22 gl22 HG22
           obtain ⟨hx22_0, hf22_0⟩ := Kd.R_celln 0 HO_9.out (x13_3 : Int) p22 q22
           replace p22 := eq_true p22
           replace q22 := eq_true q22
           have HP24 := Kd.R_putg HO_9.out (x13_3 : Int) (-7)
           go_wp2_with (first | ((with_reducible refine gate_store (t := 3) (p := 59) rfl ?_); (try (rw [drewN_self wr]; generalize hq_ : World.drewN wr _ = wr; have n0_ := Aside0.mk (Kd.R_at hq_ HO_7.out); have n1_ := Aside0.mk (Kd.R_at hq_ HO_9.out); have n2_ := Aside0.mk (below_at hq_ HB.out); clear hq_ HO_7 HO_9 HB; have HO_7 := n0_; have HO_9 := n1_; have HB := n2_; clear n0_ n1_ n2_; (try (have HP24 := Kd.R_putg HO_9.out (x13_3 : Int) (-7))))); refine store_event (t := 3) (p := 59) (v := ?vo_w25) (w1 := (wr.setCell ⟨go22, (x13_3 : Int).toNat, none⟩ (.int .i64 (-7)))) ?hg ?ho ?hn ?hr ?_; (case ho => rfl); (case hg => rfl); (case hn => rfl); (case hr => first | (go_simp; done) | (go_simp; rfl)); intro w25 hw; have hg : wr.grownBy w25 (some go22) := (by rw [hw]; exact HP24.2); have hp_ : Kd.R (Kd.int .i64) 3 w25 w.heap.size (fun _ => True) (.slice (some ⟨go22, 0, none⟩) x9_3.length co23) y257 := (by rw [hw, Ny257.out]; exact HP24.1); clear HP24; have n0_ := Aside0.mk (Kd.R_over' (v := (.slice (some ⟨go22, 0, none⟩) x9_3.length co23)) (kdUp HO_7.out) (Kd.R_typed HO_9.out) (by decide) hg); have n1_ := Aside0.mk (hp_); have n2_ := Aside0.mk ((by rw [hw]; exact below_set (HB.out) GB22.out : Below w.heap.size w w25)); clear HO_7; clear HO_9; clear HB; have HO_7 := n0_; have HO_9 := n1_; have HB := n2_; clear n0_ n1_ n2_; clear hg hw hp_))
           repeat (go_quiet (first | ((with_reducible refine gate_store (t := 3) (p := 59) rfl ?_); (try (rw [drewN_self wr]; generalize hq_ : World.drewN wr _ = wr; have n0_ := Aside0.mk (Kd.R_at hq_ HO_7.out); have n1_ := Aside0.mk (Kd.R_at hq_ HO_9.out); have n2_ := Aside0.mk (below_at hq_ HB.out); clear hq_ HO_7 HO_9 HB; have HO_7 := n0_; have HO_9 := n1_; have HB := n2_; clear n0_ n1_ n2_; (try (have HP24 := Kd.R_putg HO_9.out (x13_3 : Int) (-7))))); refine store_event (t := 3) (p := 59) (v := ?vo_w25) (w1 := (wr.setCell ⟨go22, (x13_3 : Int).toNat, none⟩ (.int .i64 (-7)))) ?hg ?ho ?hn ?hr ?_; (case ho => rfl); (case hg => rfl); (case hn => rfl); (case hr => first | (go_simp; done) | (go_simp; rfl)); intro w25 hw; have hg : wr.grownBy w25 (some go22) := (by rw [hw]; exact HP24.2); have hp_ : Kd.R (Kd.int .i64) 3 w25 w.heap.size (fun _ => True) (.slice (some ⟨go22, 0, none⟩) x9_3.length co23) y257 := (by rw [hw, Ny257.out]; exact HP24.1); clear HP24; have n0_ := Aside0.mk (Kd.R_over' (v := (.slice (some ⟨go22, 0, none⟩) x9_3.length co23)) (kdUp HO_7.out) (Kd.R_typed HO_9.out) (by decide) hg); have n1_ := Aside0.mk (hp_); have n2_ := Aside0.mk ((by rw [hw]; exact below_set (HB.out) GB22.out : Below w.heap.size w w25)); clear HO_7; clear HO_9; clear HB; have HO_7 := n0_; have HO_9 := n1_; have HB := n2_; clear n0_ n1_ n2_; clear hg hw hp_)); try go_wp2_with (first | ((with_reducible refine gate_store (t := 3) (p := 59) rfl ?_); (try (rw [drewN_self wr]; generalize hq_ : World.drewN wr _ = wr; have n0_ := Aside0.mk (Kd.R_at hq_ HO_7.out); have n1_ := Aside0.mk (Kd.R_at hq_ HO_9.out); have n2_ := Aside0.mk (below_at hq_ HB.out); clear hq_ HO_7 HO_9 HB; have HO_7 := n0_; have HO_9 := n1_; have HB := n2_; clear n0_ n1_ n2_; (try (have HP24 := Kd.R_putg HO_9.out (x13_3 : Int) (-7))))); refine store_event (t := 3) (p := 59) (v := ?vo_w25) (w1 := (wr.setCell ⟨go22, (x13_3 : Int).toNat, none⟩ (.int .i64 (-7)))) ?hg ?ho ?hn ?hr ?_; (case ho => rfl); (case hg => rfl); (case hn => rfl); (case hr => first | (go_simp; done) | (go_simp; rfl)); intro w25 hw; have hg : wr.grownBy w25 (some go22) := (by rw [hw]; exact HP24.2); have hp_ : Kd.R (Kd.int .i64) 3 w25 w.heap.size (fun _ => True) (.slice (some ⟨go22, 0, none⟩) x9_3.length co23) y257 := (by rw [hw, Ny257.out]; exact HP24.1); clear HP24; have n0_ := Aside0.mk (Kd.R_over' (v := (.slice (some ⟨go22, 0, none⟩) x9_3.length co23)) (kdUp HO_7.out) (Kd.R_typed HO_9.out) (by decide) hg); have n1_ := Aside0.mk (hp_); have n2_ := Aside0.mk ((by rw [hw]; exact below_set (HB.out) GB22.out : Below w.heap.size w w25)); clear HO_7; clear HO_9; clear HB; have HO_7 := n0_; have HO_9 := n1_; have HB := n2_; clear n0_ n1_ n2_; clear hg hw hp_)))
           go_roundg k3
           case measure => have := HK1.out; have := HK2.out; have := HK3.out; omega
           case rel => exact ⟨(y257), (wrap64 (x13_3 + 1)), eqNow, H', ⟨by have := HK1.out; have := HK2.out; have := HK3.out; omega⟩, ⟨by (with_reducible repeat (first | apply Kd.R_alloc | apply Kd.R_drewN | apply Kd.R_drew)); (first | exact HO_7.out | exact Kd.R_mono HO_7.out (fun k_ h_ h2_ => h_ (h2_.trans ((fun (A_ : Option Addr) (n_ m_ c_ : Nat) => (show (Value.slice A_ n_ c_).ownBlock = (Value.slice A_ m_ c_).ownBlock by cases A_ <;> rfl)) _ _ _ _))))⟩, ⟨by (with_reducible repeat (first | apply Kd.R_alloc | apply Kd.R_drewN | apply Kd.R_drew)); (first | exact HO_9.out | exact Kd.R_mono HO_9.out (fun k_ h_ h2_ => h_ (h2_.trans ((fun (A_ : Option Addr) (n_ m_ c_ : Nat) => (show (Value.slice A_ n_ c_).ownBlock = (Value.slice A_ m_ c_).ownBlock by cases A_ <;> rfl)) _ _ _ _))))⟩, ⟨belNow⟩⟩
          ·rw [if_neg c21] at H
           exact absurd H (by simp)
         ·rw [if_neg c20] at H
          have c20b0 : decide (x13_3 < (x9_3.length : Int)) = false := decide_eq_false c20
          clear c20
          obtain ⟨y258, hy258⟩ : ∃ y_ : List ByteArray, y_ = (([(⟨#[109, 111, 114, 101]⟩ : ByteArray), (⟨#[109, 111, 114, 101]⟩ : ByteArray)] : List ByteArray)) := ⟨_, rfl⟩
          replace H : (if x7_1.length + y258.length < 8796093022208 then ((apply_Apply.f k3 l0 l1 a2).bind fun bt264 => ((selvageref17_Apply.f k3 l0 l1 a2).bind fun bt274 => (if (bt264.2.2.1.length : Int) = (bt274.2.2.1.length : Int) then (selvagelaw17_ApplyOwn.l3 k3 (x7_1 ++ y258) bt264.1 bt264.2.2.1 bt264.2.2.2 bt274.1 bt274.2.2.1 bt274.2.2.2 0) else (none)))) else (none)) = some r := by first | (rw [hy258]; with_reducible exact H) | (have H2_ := (Option.bind_some _ _).symm.trans H; rw [hy258]; with_reducible exact H2_) | (have H2_ := (Option.bind_some _ _).symm.trans H; with_reducible exact H2_) | with_reducible exact H | (rw [hy258]; exact H) | exact H
          have Ny258 := Aside0.mk hy258
          clear hy258
          by_cases c26 : x7_1.length + y258.length < 8796093022208
          ·rw [if_pos c26] at H
           have LMc26 := Aside0.mk c26
           clear c26
           obtain ⟨y261, hy261⟩ : ∃ y_ : List ByteArray, y_ = (x7_1 ++ y258) := ⟨_, rfl⟩
           replace H : ((apply_Apply.f k3 l0 l1 a2).bind fun bt264 => ((selvageref17_Apply.f k3 l0 l1 a2).bind fun bt274 => (if (bt264.2.2.1.length : Int) = (bt274.2.2.1.length : Int) then (selvagelaw17_ApplyOwn.l3 k3 y261 bt264.1 bt264.2.2.1 bt264.2.2.2 bt274.1 bt274.2.2.1 bt274.2.2.2 0) else (none)))) = some r := by first | (rw [hy261]; with_reducible exact H) | (have H2_ := (Option.bind_some _ _).symm.trans H; rw [hy261]; with_reducible exact H2_) | (have H2_ := (Option.bind_some _ _).symm.trans H; with_reducible exact H2_) | with_reducible exact H | (rw [hy261]; exact H) | exact H
           have Ny261 := Aside0.mk hy261
           clear hy261
           replace H := Option.bind_eq_some_iff.mp H
           obtain ⟨⟨t264, t265, t266, t267⟩, A270, H⟩ := H
           replace H : ((selvageref17_Apply.f k3 l0 l1 a2).bind fun bt274 => (if (t266.length : Int) = (bt274.2.2.1.length : Int) then (selvagelaw17_ApplyOwn.l3 k3 y261 t264 t266 t267 bt274.1 bt274.2.2.1 bt274.2.2.2 0) else (none))) = some r := H
           have A27 := Aside0.mk A270
           clear A270
           replace H := Option.bind_eq_some_iff.mp H
           obtain ⟨⟨t274, t275, t276, t277⟩, A280, H⟩ := H
           replace H : (if (t266.length : Int) = (t276.length : Int) then (selvagelaw17_ApplyOwn.l3 k3 y261 t264 t266 t267 t274 t276 t277 0) else (none)) = some r := H
           have A28 := Aside0.mk A280
           clear A280
           by_cases c29 : (t266.length : Int) = (t276.length : Int)
           ·rw [if_pos c29] at H
            have c29b0 : ((t266.length : Int) == (t276.length : Int)) = true := beq_iff_eq.mpr c29
            have c29b1 : ((t266.length : Int) != (t276.length : Int)) = false := bne_eq_false_iff_eq.mpr c29
            have c29b2 : (t266.length == t276.length) = true := by first | simpa using c29 | (simp at c29 ⊢; omega)
            clear c29
            have H' := Aside0.mk H
            clear H
            obtain ⟨Ao30, co30, eo30⟩ := Kd.R_slice HO_9.out
            subst eo30
            go_wp2_with (first | ((with_reducible refine gate_dst (N := 61) rfl ?_); (try (refine gate_guard (by rfl) ?_; dsimp only)); refine Kd.R_lit Kd.string _ 9 ?hg (N := 61) ?hd (xs := ([(⟨#[109, 111, 114, 101]⟩ : ByteArray), (⟨#[109, 111, 114, 101]⟩ : ByteArray)] : List ByteArray)) (inner := [.string (⟨#[109, 111, 114, 101]⟩ : ByteArray), .string (⟨#[109, 111, 114, 101]⟩ : ByteArray)]) (ok := fun _ => True) (okp := fun _ => True) ?hr ?hp (fun _ hk => hk) trivial (Below.refl _ _) (Nat.le_refl _) (by simp) ?_; (case hd => rfl); (case hg => rfl); (case hr => first | (go_simp; done) | (go_simp; rfl)); (case hp => exact (Reps.one (show Kd.M Kd.string _ _ _ (⟨#[109, 111, 114, 101]⟩ : ByteArray) [.string (⟨#[109, 111, 114, 101]⟩ : ByteArray)] from rfl) (Reps.one (show Kd.M Kd.string _ _ _ (⟨#[109, 111, 114, 101]⟩ : ByteArray) [.string (⟨#[109, 111, 114, 101]⟩ : ByteArray)] from rfl) (Reps.none _ _)))); intro v259 w31 ho32 hb hg_ hnew_; clear hg_ hnew_; (first | rw [← Ny258.out] at ho32 | (simp only [Int.reduceToNat] at ho32; rw [← Ny258.out] at ho32)); have n0_ := Aside0.mk (Kd.R_elder' (kdUp HO_7.out) (Kd.R_base ho32) hb); have n1_ := Aside0.mk (Kd.R_below (kdUp HO_9.out) hb); have n2_ := Aside0.mk (Kd.R_lower (Kd.R_new' ho32 (Kd.R_lt (kdUp HO_7.out))) (below_size belNow)); have n3_ := Aside0.mk (below_step belNow hb); clear HO_7; clear HO_9; clear HB; have HO_7 := n0_; have HO_9 := n1_; have HO260 := n2_; have HB := n3_; clear n0_ n1_ n2_ n3_; clear hb ho32; obtain ⟨Ao34, co34, eo34⟩ := Kd.R_slice HO260.out; subst eo34) | ((with_reducible refine gate_builtin (b := .append) (xs := #[.tmp 60, .tmp 61]) rfl ?_); (try (refine gate_guard (by rfl) ?_; dsimp only)); at_builtin; refine Kd.R_append_rows Kd.string (w0 := w) w.heap.size rfl (.tmp 60) (.tmp 61) 22 9 (.string ⟨#[]⟩) 16 rfl Tryd.underlying22 info9 rfl (by decide) (by omega) (.slice Ao12 x7_1.length co12) x7_1 y258 _ _ _ (fun k_ => some k_ ≠ (.slice Ao34 y258.length co34 : Value).ownBlock) (fun _ => False) rfl rfl ?aO ?aR (fun _ _ h => h) (fun _ h => h.elim) ?aF ?aB ?aS ?aL ?_; (case aR => repeat (first | exact (Kd.R_reads' HO260.out).2.2 | (with_reducible refine Kd.C_alloc ?_ _) | (with_reducible refine Kd.C_drewN ?_ _) | (with_reducible refine Kd.C_drew ?_))); (case aB => exact belNow); (case aF => exact (fun k_ hk => Kd.fresh' (Kd.R_lt (kdUp HO260.out)) k_ hk)); (case aO => exact (by (with_reducible repeat (first | apply Kd.R_alloc | apply Kd.R_drewN | apply Kd.R_drew)); exact Kd.R_mono HO_7.out (fun _ hk => hk.2))); (case aS => exact (below_size belNow)); (case aL => have := LMc26.out; omega); intro v262 w33 ho hb hg hat; rw [← Ny261.out] at ho; have n0_ := Aside0.mk (Kd.R_over' (kdUp HO_9.out) (Kd.R_typed (kdUp HO_7.out)) (by decide) hg); have n1_ := Aside0.mk (Kd.R_after (ok := (fun _ => True)) (kdUp HO260.out) hg hat); have n2_ := Aside0.mk (hb); have n3_ := Aside0.mk (ho); clear HO_9; clear HO260; clear HB; clear HO_7; have HO_9 := n0_; have HO260 := n1_; have HB := n2_; have HO263 := n3_; clear n0_ n1_ n2_ n3_; clear ho hb hg hat) | (go_at_call 6; (with_reducible refine (apply_Apply.calls k3 _ _ l0 _ _ l1 a2 t264 t265 t266 t267 _ ?side1 ?side2 ?side3 ?side4 A27.out).mono ?_); (case side1 => repeat (first | exact (Kd.C_below HR0.out HB.out) | (with_reducible refine Kd.C_alloc ?_ _) | (with_reducible refine Kd.C_drewN ?_ _) | (with_reducible refine Kd.C_drew ?_))); (case side2 => exact HC0.out); (case side3 => repeat (first | exact (Kd.C_below HR1.out HB.out) | (with_reducible refine Kd.C_alloc ?_ _) | (with_reducible refine Kd.C_drewN ?_ _) | (with_reducible refine Kd.C_drew ?_))); (case side4 => exact HC1.out); rintro e w35 ⟨v268, v270, v272, rfl, ho0, ho1, ho2, hb⟩; have n0_ := Aside0.mk (Kd.R_elder' (kdUp HO_9.out) (Kd.R_base ho2) hb); have n1_ := Aside0.mk (Kd.R_elder' (kdUp HO260.out) (Kd.R_base ho0) hb); have n2_ := Aside0.mk (Kd.R_elder' (kdUp HO263.out) (Kd.R_base ho0) hb); have n3_ := Aside0.mk (Kd.R_lower (Kd.R_new' (Kd.R_new' ho0 (Kd.R_lt (kdUp HO260.out))) (Kd.R_lt (kdUp HO263.out))) (below_size belNow)); have n4_ := Aside0.mk (Kd.R_lower ho1 (below_size belNow)); have n5_ := Aside0.mk (Kd.R_lower (Kd.R_new' ho2 (Kd.R_lt (kdUp HO_9.out))) (below_size belNow)); have n6_ := Aside0.mk (below_step belNow hb); clear HO_9; clear HO260; clear HO263; clear HB; have HO_9 := n0_; have HO260 := n1_; have HO263 := n2_; have HO269 := n3_; have HO271 := n4_; have HO273 := n5_; have HB := n6_; clear n0_ n1_ n2_ n3_ n4_ n5_ n6_; (try clear hb); (try clear hb2); (try clear hk); (try clear hi); (try clear ho0); (try clear ho1); (try clear ho2); (try simp only [errW_none, errW_some])) | (go_at_call 7; (with_reducible refine (selvageref17_Apply.calls k3 _ _ l0 _ _ l1 a2 t274 t275 t276 t277 _ ?side1 ?side2 ?side3 ?side4 A28.out).mono ?_); (case side1 => repeat (first | exact (Kd.C_below HR0.out HB.out) | (with_reducible refine Kd.C_alloc ?_ _) | (with_reducible refine Kd.C_drewN ?_ _) | (with_reducible refine Kd.C_drew ?_))); (case side2 => exact HC0.out); (case side3 => repeat (first | exact (Kd.C_below HR1.out HB.out) | (with_reducible refine Kd.C_alloc ?_ _) | (with_reducible refine Kd.C_drewN ?_ _) | (with_reducible refine Kd.C_drew ?_))); (case side4 => exact HC1.out); rintro e w36 ⟨v278, v280, v282, rfl, ho0, ho1, ho2, hb⟩; have n0_ := Aside0.mk (Kd.R_elder' (kdUp HO_9.out) (Kd.R_base ho2) hb); have n1_ := Aside0.mk (Kd.R_elder' (kdUp HO260.out) (Kd.R_base ho0) hb); have n2_ := Aside0.mk (Kd.R_elder' (kdUp HO263.out) (Kd.R_base ho0) hb); have n3_ := Aside0.mk (Kd.R_elder' (kdUp HO269.out) (Kd.R_base ho0) hb); have n4_ := Aside0.mk (Kd.R_below (kdUp HO271.out) hb); have n5_ := Aside0.mk (Kd.R_elder' (kdUp HO273.out) (Kd.R_base ho2) hb); have n6_ := Aside0.mk (Kd.R_lower (Kd.R_new' (Kd.R_new' (Kd.R_new' ho0 (Kd.R_lt (kdUp HO260.out))) (Kd.R_lt (kdUp HO263.out))) (Kd.R_lt (kdUp HO269.out))) (below_size belNow)); have n7_ := Aside0.mk (Kd.R_lower ho1 (below_size belNow)); have n8_ := Aside0.mk (Kd.R_lower (Kd.R_new' (Kd.R_new' ho2 (Kd.R_lt (kdUp HO_9.out))) (Kd.R_lt (kdUp HO273.out))) (below_size belNow)); have n9_ := Aside0.mk (below_step belNow hb); clear HO_9; clear HO260; clear HO263; clear HO269; clear HO271; clear HO273; clear HB; have HO_9 := n0_; have HO260 := n1_; have HO263 := n2_; have HO269 := n3_; have HO271 := n4_; have HO273 := n5_; have HO279 := n6_; have HO281 := n7_; have HO283 := n8_; have HB := n9_; clear n0_ n1_ n2_ n3_ n4_ n5_ n6_ n7_ n8_ n9_; (try clear hb); (try clear hb2); (try clear hk); (try clear hi); (try clear ho0); (try clear ho1); (try clear ho2); obtain ⟨Ao37, co37, eo37⟩ := Kd.R_slice HO273.out; subst eo37; obtain ⟨Ao38, co38, eo38⟩ := Kd.R_slice HO283.out; subst eo38))
            repeat (go_quiet (first | ((with_reducible refine gate_dst (N := 61) rfl ?_); (try (refine gate_guard (by rfl) ?_; dsimp only)); refine Kd.R_lit Kd.string _ 9 ?hg (N := 61) ?hd (xs := ([(⟨#[109, 111, 114, 101]⟩ : ByteArray), (⟨#[109, 111, 114, 101]⟩ : ByteArray)] : List ByteArray)) (inner := [.string (⟨#[109, 111, 114, 101]⟩ : ByteArray), .string (⟨#[109, 111, 114, 101]⟩ : ByteArray)]) (ok := fun _ => True) (okp := fun _ => True) ?hr ?hp (fun _ hk => hk) trivial (Below.refl _ _) (Nat.le_refl _) (by simp) ?_; (case hd => rfl); (case hg => rfl); (case hr => first | (go_simp; done) | (go_simp; rfl)); (case hp => exact (Reps.one (show Kd.M Kd.string _ _ _ (⟨#[109, 111, 114, 101]⟩ : ByteArray) [.string (⟨#[109, 111, 114, 101]⟩ : ByteArray)] from rfl) (Reps.one (show Kd.M Kd.string _ _ _ (⟨#[109, 111, 114, 101]⟩ : ByteArray) [.string (⟨#[109, 111, 114, 101]⟩ : ByteArray)] from rfl) (Reps.none _ _)))); intro v259 w31 ho32 hb hg_ hnew_; clear hg_ hnew_; (first | rw [← Ny258.out] at ho32 | (simp only [Int.reduceToNat] at ho32; rw [← Ny258.out] at ho32)); have n0_ := Aside0.mk (Kd.R_elder' (kdUp HO_7.out) (Kd.R_base ho32) hb); have n1_ := Aside0.mk (Kd.R_below (kdUp HO_9.out) hb); have n2_ := Aside0.mk (Kd.R_lower (Kd.R_new' ho32 (Kd.R_lt (kdUp HO_7.out))) (below_size belNow)); have n3_ := Aside0.mk (below_step belNow hb); clear HO_7; clear HO_9; clear HB; have HO_7 := n0_; have HO_9 := n1_; have HO260 := n2_; have HB := n3_; clear n0_ n1_ n2_ n3_; clear hb ho32; obtain ⟨Ao34, co34, eo34⟩ := Kd.R_slice HO260.out; subst eo34) | ((with_reducible refine gate_builtin (b := .append) (xs := #[.tmp 60, .tmp 61]) rfl ?_); (try (refine gate_guard (by rfl) ?_; dsimp only)); at_builtin; refine Kd.R_append_rows Kd.string (w0 := w) w.heap.size rfl (.tmp 60) (.tmp 61) 22 9 (.string ⟨#[]⟩) 16 rfl Tryd.underlying22 info9 rfl (by decide) (by omega) (.slice Ao12 x7_1.length co12) x7_1 y258 _ _ _ (fun k_ => some k_ ≠ (.slice Ao34 y258.length co34 : Value).ownBlock) (fun _ => False) rfl rfl ?aO ?aR (fun _ _ h => h) (fun _ h => h.elim) ?aF ?aB ?aS ?aL ?_; (case aR => repeat (first | exact (Kd.R_reads' HO260.out).2.2 | (with_reducible refine Kd.C_alloc ?_ _) | (with_reducible refine Kd.C_drewN ?_ _) | (with_reducible refine Kd.C_drew ?_))); (case aB => exact belNow); (case aF => exact (fun k_ hk => Kd.fresh' (Kd.R_lt (kdUp HO260.out)) k_ hk)); (case aO => exact (by (with_reducible repeat (first | apply Kd.R_alloc | apply Kd.R_drewN | apply Kd.R_drew)); exact Kd.R_mono HO_7.out (fun _ hk => hk.2))); (case aS => exact (below_size belNow)); (case aL => have := LMc26.out; omega); intro v262 w33 ho hb hg hat; rw [← Ny261.out] at ho; have n0_ := Aside0.mk (Kd.R_over' (kdUp HO_9.out) (Kd.R_typed (kdUp HO_7.out)) (by decide) hg); have n1_ := Aside0.mk (Kd.R_after (ok := (fun _ => True)) (kdUp HO260.out) hg hat); have n2_ := Aside0.mk (hb); have n3_ := Aside0.mk (ho); clear HO_9; clear HO260; clear HB; clear HO_7; have HO_9 := n0_; have HO260 := n1_; have HB := n2_; have HO263 := n3_; clear n0_ n1_ n2_ n3_; clear ho hb hg hat) | (go_at_call 6; (with_reducible refine (apply_Apply.calls k3 _ _ l0 _ _ l1 a2 t264 t265 t266 t267 _ ?side1 ?side2 ?side3 ?side4 A27.out).mono ?_); (case side1 => repeat (first | exact (Kd.C_below HR0.out HB.out) | (with_reducible refine Kd.C_alloc ?_ _) | (with_reducible refine Kd.C_drewN ?_ _) | (with_reducible refine Kd.C_drew ?_))); (case side2 => exact HC0.out); (case side3 => repeat (first | exact (Kd.C_below HR1.out HB.out) | (with_reducible refine Kd.C_alloc ?_ _) | (with_reducible refine Kd.C_drewN ?_ _) | (with_reducible refine Kd.C_drew ?_))); (case side4 => exact HC1.out); rintro e w35 ⟨v268, v270, v272, rfl, ho0, ho1, ho2, hb⟩; have n0_ := Aside0.mk (Kd.R_elder' (kdUp HO_9.out) (Kd.R_base ho2) hb); have n1_ := Aside0.mk (Kd.R_elder' (kdUp HO260.out) (Kd.R_base ho0) hb); have n2_ := Aside0.mk (Kd.R_elder' (kdUp HO263.out) (Kd.R_base ho0) hb); have n3_ := Aside0.mk (Kd.R_lower (Kd.R_new' (Kd.R_new' ho0 (Kd.R_lt (kdUp HO260.out))) (Kd.R_lt (kdUp HO263.out))) (below_size belNow)); have n4_ := Aside0.mk (Kd.R_lower ho1 (below_size belNow)); have n5_ := Aside0.mk (Kd.R_lower (Kd.R_new' ho2 (Kd.R_lt (kdUp HO_9.out))) (below_size belNow)); have n6_ := Aside0.mk (below_step belNow hb); clear HO_9; clear HO260; clear HO263; clear HB; have HO_9 := n0_; have HO260 := n1_; have HO263 := n2_; have HO269 := n3_; have HO271 := n4_; have HO273 := n5_; have HB := n6_; clear n0_ n1_ n2_ n3_ n4_ n5_ n6_; (try clear hb); (try clear hb2); (try clear hk); (try clear hi); (try clear ho0); (try clear ho1); (try clear ho2); (try simp only [errW_none, errW_some])) | (go_at_call 7; (with_reducible refine (selvageref17_Apply.calls k3 _ _ l0 _ _ l1 a2 t274 t275 t276 t277 _ ?side1 ?side2 ?side3 ?side4 A28.out).mono ?_); (case side1 => repeat (first | exact (Kd.C_below HR0.out HB.out) | (with_reducible refine Kd.C_alloc ?_ _) | (with_reducible refine Kd.C_drewN ?_ _) | (with_reducible refine Kd.C_drew ?_))); (case side2 => exact HC0.out); (case side3 => repeat (first | exact (Kd.C_below HR1.out HB.out) | (with_reducible refine Kd.C_alloc ?_ _) | (with_reducible refine Kd.C_drewN ?_ _) | (with_reducible refine Kd.C_drew ?_))); (case side4 => exact HC1.out); rintro e w36 ⟨v278, v280, v282, rfl, ho0, ho1, ho2, hb⟩; have n0_ := Aside0.mk (Kd.R_elder' (kdUp HO_9.out) (Kd.R_base ho2) hb); have n1_ := Aside0.mk (Kd.R_elder' (kdUp HO260.out) (Kd.R_base ho0) hb); have n2_ := Aside0.mk (Kd.R_elder' (kdUp HO263.out) (Kd.R_base ho0) hb); have n3_ := Aside0.mk (Kd.R_elder' (kdUp HO269.out) (Kd.R_base ho0) hb); have n4_ := Aside0.mk (Kd.R_below (kdUp HO271.out) hb); have n5_ := Aside0.mk (Kd.R_elder' (kdUp HO273.out) (Kd.R_base ho2) hb); have n6_ := Aside0.mk (Kd.R_lower (Kd.R_new' (Kd.R_new' (Kd.R_new' ho0 (Kd.R_lt (kdUp HO260.out))) (Kd.R_lt (kdUp HO263.out))) (Kd.R_lt (kdUp HO269.out))) (below_size belNow)); have n7_ := Aside0.mk (Kd.R_lower ho1 (below_size belNow)); have n8_ := Aside0.mk (Kd.R_lower (Kd.R_new' (Kd.R_new' ho2 (Kd.R_lt (kdUp HO_9.out))) (Kd.R_lt (kdUp HO273.out))) (below_size belNow)); have n9_ := Aside0.mk (below_step belNow hb); clear HO_9; clear HO260; clear HO263; clear HO269; clear HO271; clear HO273; clear HB; have HO_9 := n0_; have HO260 := n1_; have HO263 := n2_; have HO269 := n3_; have HO271 := n4_; have HO273 := n5_; have HO279 := n6_; have HO281 := n7_; have HO283 := n8_; have HB := n9_; clear n0_ n1_ n2_ n3_ n4_ n5_ n6_ n7_ n8_ n9_; (try clear hb); (try clear hb2); (try clear hk); (try clear hi); (try clear ho0); (try clear ho1); (try clear ho2); obtain ⟨Ao37, co37, eo37⟩ := Kd.R_slice HO273.out; subst eo37; obtain ⟨Ao38, co38, eo38⟩ := Kd.R_slice HO283.out; subst eo38)); try go_wp2_with (first | ((with_reducible refine gate_dst (N := 61) rfl ?_); (try (refine gate_guard (by rfl) ?_; dsimp only)); refine Kd.R_lit Kd.string _ 9 ?hg (N := 61) ?hd (xs := ([(⟨#[109, 111, 114, 101]⟩ : ByteArray), (⟨#[109, 111, 114, 101]⟩ : ByteArray)] : List ByteArray)) (inner := [.string (⟨#[109, 111, 114, 101]⟩ : ByteArray), .string (⟨#[109, 111, 114, 101]⟩ : ByteArray)]) (ok := fun _ => True) (okp := fun _ => True) ?hr ?hp (fun _ hk => hk) trivial (Below.refl _ _) (Nat.le_refl _) (by simp) ?_; (case hd => rfl); (case hg => rfl); (case hr => first | (go_simp; done) | (go_simp; rfl)); (case hp => exact (Reps.one (show Kd.M Kd.string _ _ _ (⟨#[109, 111, 114, 101]⟩ : ByteArray) [.string (⟨#[109, 111, 114, 101]⟩ : ByteArray)] from rfl) (Reps.one (show Kd.M Kd.string _ _ _ (⟨#[109, 111, 114, 101]⟩ : ByteArray) [.string (⟨#[109, 111, 114, 101]⟩ : ByteArray)] from rfl) (Reps.none _ _)))); intro v259 w31 ho32 hb hg_ hnew_; clear hg_ hnew_; (first | rw [← Ny258.out] at ho32 | (simp only [Int.reduceToNat] at ho32; rw [← Ny258.out] at ho32)); have n0_ := Aside0.mk (Kd.R_elder' (kdUp HO_7.out) (Kd.R_base ho32) hb); have n1_ := Aside0.mk (Kd.R_below (kdUp HO_9.out) hb); have n2_ := Aside0.mk (Kd.R_lower (Kd.R_new' ho32 (Kd.R_lt (kdUp HO_7.out))) (below_size belNow)); have n3_ := Aside0.mk (below_step belNow hb); clear HO_7; clear HO_9; clear HB; have HO_7 := n0_; have HO_9 := n1_; have HO260 := n2_; have HB := n3_; clear n0_ n1_ n2_ n3_; clear hb ho32; obtain ⟨Ao34, co34, eo34⟩ := Kd.R_slice HO260.out; subst eo34) | ((with_reducible refine gate_builtin (b := .append) (xs := #[.tmp 60, .tmp 61]) rfl ?_); (try (refine gate_guard (by rfl) ?_; dsimp only)); at_builtin; refine Kd.R_append_rows Kd.string (w0 := w) w.heap.size rfl (.tmp 60) (.tmp 61) 22 9 (.string ⟨#[]⟩) 16 rfl Tryd.underlying22 info9 rfl (by decide) (by omega) (.slice Ao12 x7_1.length co12) x7_1 y258 _ _ _ (fun k_ => some k_ ≠ (.slice Ao34 y258.length co34 : Value).ownBlock) (fun _ => False) rfl rfl ?aO ?aR (fun _ _ h => h) (fun _ h => h.elim) ?aF ?aB ?aS ?aL ?_; (case aR => repeat (first | exact (Kd.R_reads' HO260.out).2.2 | (with_reducible refine Kd.C_alloc ?_ _) | (with_reducible refine Kd.C_drewN ?_ _) | (with_reducible refine Kd.C_drew ?_))); (case aB => exact belNow); (case aF => exact (fun k_ hk => Kd.fresh' (Kd.R_lt (kdUp HO260.out)) k_ hk)); (case aO => exact (by (with_reducible repeat (first | apply Kd.R_alloc | apply Kd.R_drewN | apply Kd.R_drew)); exact Kd.R_mono HO_7.out (fun _ hk => hk.2))); (case aS => exact (below_size belNow)); (case aL => have := LMc26.out; omega); intro v262 w33 ho hb hg hat; rw [← Ny261.out] at ho; have n0_ := Aside0.mk (Kd.R_over' (kdUp HO_9.out) (Kd.R_typed (kdUp HO_7.out)) (by decide) hg); have n1_ := Aside0.mk (Kd.R_after (ok := (fun _ => True)) (kdUp HO260.out) hg hat); have n2_ := Aside0.mk (hb); have n3_ := Aside0.mk (ho); clear HO_9; clear HO260; clear HB; clear HO_7; have HO_9 := n0_; have HO260 := n1_; have HB := n2_; have HO263 := n3_; clear n0_ n1_ n2_ n3_; clear ho hb hg hat) | (go_at_call 6; (with_reducible refine (apply_Apply.calls k3 _ _ l0 _ _ l1 a2 t264 t265 t266 t267 _ ?side1 ?side2 ?side3 ?side4 A27.out).mono ?_); (case side1 => repeat (first | exact (Kd.C_below HR0.out HB.out) | (with_reducible refine Kd.C_alloc ?_ _) | (with_reducible refine Kd.C_drewN ?_ _) | (with_reducible refine Kd.C_drew ?_))); (case side2 => exact HC0.out); (case side3 => repeat (first | exact (Kd.C_below HR1.out HB.out) | (with_reducible refine Kd.C_alloc ?_ _) | (with_reducible refine Kd.C_drewN ?_ _) | (with_reducible refine Kd.C_drew ?_))); (case side4 => exact HC1.out); rintro e w35 ⟨v268, v270, v272, rfl, ho0, ho1, ho2, hb⟩; have n0_ := Aside0.mk (Kd.R_elder' (kdUp HO_9.out) (Kd.R_base ho2) hb); have n1_ := Aside0.mk (Kd.R_elder' (kdUp HO260.out) (Kd.R_base ho0) hb); have n2_ := Aside0.mk (Kd.R_elder' (kdUp HO263.out) (Kd.R_base ho0) hb); have n3_ := Aside0.mk (Kd.R_lower (Kd.R_new' (Kd.R_new' ho0 (Kd.R_lt (kdUp HO260.out))) (Kd.R_lt (kdUp HO263.out))) (below_size belNow)); have n4_ := Aside0.mk (Kd.R_lower ho1 (below_size belNow)); have n5_ := Aside0.mk (Kd.R_lower (Kd.R_new' ho2 (Kd.R_lt (kdUp HO_9.out))) (below_size belNow)); have n6_ := Aside0.mk (below_step belNow hb); clear HO_9; clear HO260; clear HO263; clear HB; have HO_9 := n0_; have HO260 := n1_; have HO263 := n2_; have HO269 := n3_; have HO271 := n4_; have HO273 := n5_; have HB := n6_; clear n0_ n1_ n2_ n3_ n4_ n5_ n6_; (try clear hb); (try clear hb2); (try clear hk); (try clear hi); (try clear ho0); (try clear ho1); (try clear ho2); (try simp only [errW_none, errW_some])) | (go_at_call 7; (with_reducible refine (selvageref17_Apply.calls k3 _ _ l0 _ _ l1 a2 t274 t275 t276 t277 _ ?side1 ?side2 ?side3 ?side4 A28.out).mono ?_); (case side1 => repeat (first | exact (Kd.C_below HR0.out HB.out) | (with_reducible refine Kd.C_alloc ?_ _) | (with_reducible refine Kd.C_drewN ?_ _) | (with_reducible refine Kd.C_drew ?_))); (case side2 => exact HC0.out); (case side3 => repeat (first | exact (Kd.C_below HR1.out HB.out) | (with_reducible refine Kd.C_alloc ?_ _) | (with_reducible refine Kd.C_drewN ?_ _) | (with_reducible refine Kd.C_drew ?_))); (case side4 => exact HC1.out); rintro e w36 ⟨v278, v280, v282, rfl, ho0, ho1, ho2, hb⟩; have n0_ := Aside0.mk (Kd.R_elder' (kdUp HO_9.out) (Kd.R_base ho2) hb); have n1_ := Aside0.mk (Kd.R_elder' (kdUp HO260.out) (Kd.R_base ho0) hb); have n2_ := Aside0.mk (Kd.R_elder' (kdUp HO263.out) (Kd.R_base ho0) hb); have n3_ := Aside0.mk (Kd.R_elder' (kdUp HO269.out) (Kd.R_base ho0) hb); have n4_ := Aside0.mk (Kd.R_below (kdUp HO271.out) hb); have n5_ := Aside0.mk (Kd.R_elder' (kdUp HO273.out) (Kd.R_base ho2) hb); have n6_ := Aside0.mk (Kd.R_lower (Kd.R_new' (Kd.R_new' (Kd.R_new' ho0 (Kd.R_lt (kdUp HO260.out))) (Kd.R_lt (kdUp HO263.out))) (Kd.R_lt (kdUp HO269.out))) (below_size belNow)); have n7_ := Aside0.mk (Kd.R_lower ho1 (below_size belNow)); have n8_ := Aside0.mk (Kd.R_lower (Kd.R_new' (Kd.R_new' ho2 (Kd.R_lt (kdUp HO_9.out))) (Kd.R_lt (kdUp HO273.out))) (below_size belNow)); have n9_ := Aside0.mk (below_step belNow hb); clear HO_9; clear HO260; clear HO263; clear HO269; clear HO271; clear HO273; clear HB; have HO_9 := n0_; have HO260 := n1_; have HO263 := n2_; have HO269 := n3_; have HO271 := n4_; have HO273 := n5_; have HO279 := n6_; have HO281 := n7_; have HO283 := n8_; have HB := n9_; clear n0_ n1_ n2_ n3_ n4_ n5_ n6_ n7_ n8_ n9_; (try clear hb); (try clear hb2); (try clear hk); (try clear hi); (try clear ho0); (try clear ho1); (try clear ho2); obtain ⟨Ao37, co37, eo37⟩ := Kd.R_slice HO273.out; subst eo37; obtain ⟨Ao38, co38, eo38⟩ := Kd.R_slice HO283.out; subst eo38)))
            go_loopg [22] k3 (fun kq v22 w' => ∃ (x22_4 : Int), v22 = .int .i64 x22_4 ∧ Aside0 (selvagelaw17_ApplyOwn.l3 kq y261 t264 t266 t267 t274 t276 t277 x22_4 = some r) ∧ Aside0 (kq ≤ k3) ∧ Aside0 (Kd.R Kd.string 9 w' w.heap.size (fun k_ => some k_ ≠ (v268 : Value).ownBlock ∧ some k_ ≠ (v278 : Value).ownBlock) v262 y261) ∧ Aside0 (Kd.R Kd.string 9 w' w.heap.size (fun k_ => some k_ ≠ (v262 : Value).ownBlock ∧ some k_ ≠ (v278 : Value).ownBlock) v268 t264) ∧ Aside0 (Kd.R (Kd.int .i64) 3 w' w.heap.size (fun k_ => some k_ ≠ ((.slice Ao38 t276.length co38) : Value).ownBlock) (.slice Ao37 t266.length co37) t266) ∧ Aside0 (Kd.R Kd.string 9 w' w.heap.size (fun k_ => some k_ ≠ (v262 : Value).ownBlock ∧ some k_ ≠ (v268 : Value).ownBlock) v278 t274) ∧ Aside0 (Kd.R (Kd.int .i64) 3 w' w.heap.size (fun k_ => some k_ ≠ ((.slice Ao37 t266.length co37) : Value).ownBlock) (.slice Ao38 t276.length co38) t276) ∧ Aside0 (Below w.heap.size w w'))
            case atStart => exact ⟨(0), eqNow, H', ⟨Nat.le_refl _⟩, ⟨by (with_reducible repeat (first | apply Kd.R_alloc | apply Kd.R_drewN | apply Kd.R_drew)); exact Kd.R_mono HO263.out (fun _ hk => ⟨hk.1.2, hk.2⟩)⟩, ⟨by (with_reducible repeat (first | apply Kd.R_alloc | apply Kd.R_drewN | apply Kd.R_drew)); exact Kd.R_mono HO269.out (fun _ hk => ⟨hk.1.2, hk.2⟩)⟩, ⟨by (with_reducible repeat (first | apply Kd.R_alloc | apply Kd.R_drewN | apply Kd.R_drew)); exact Kd.R_mono HO273.out (fun _ hk => hk.2)⟩, ⟨by (with_reducible repeat (first | apply Kd.R_alloc | apply Kd.R_drewN | apply Kd.R_drew)); exact Kd.R_mono HO279.out (fun _ hk => ⟨hk.1.2, hk.2⟩)⟩, ⟨by (with_reducible repeat (first | apply Kd.R_alloc | apply Kd.R_drewN | apply Kd.R_drew)); exact Kd.R_mono HO283.out (fun _ hk => hk.2)⟩, ⟨belNow⟩⟩
            case round =>
             clear H'
             try clear c1
             try clear p1
             try clear q1
             try clear hx1
             try clear c2
             try clear p2
             try clear q2
             try clear hx2
             try clear c4
             try clear c6
             try clear c6b0
             try clear p6
             try clear c7
             try clear c7b0
             try clear p8
             try clear q8
             try clear hx8
             try clear hf8
             try clear c13
             try clear c13b0
             try clear c14
             try clear c14b0
             try clear c15
             try clear p15
             try clear q15
             try clear hx15
             try clear hf15
             try clear c17
             try clear hx17
             try clear hf17
             try clear c20
             try clear c20b0
             try clear c21
             try clear c21b0
             try clear p22
             try clear q22
             try clear hx22
             try clear hf22
             try clear c26
             try clear c29
             try clear c29b0
             try clear c29b1
             try clear c29b2
             try clear hx15_0
             try clear hx15_1
             try clear hx15_2
             try clear hx15_3
             try clear hx17_0
             try clear hx17_1
             try clear hx17_2
             try clear hx17_3
             try clear hx22_0
             try clear hx8_0
             try clear p1
             try clear p15
             try clear p2
             try clear p22
             try clear p6
             try clear p8
             try clear q1
             try clear q15
             try clear q22
             try clear q8
             obtain ⟨x22_4, rfl, HA, HK4, HO_7, HO_14, HO_16, HO_18, HO_20, HB⟩ := hrel
             cases gk with
             | zero => exact absurd HA.out (by simp [selvagelaw17_ApplyOwn.l3])
             | succ k4 =>
              have H := HA.out
              clear HA
              simp only [selvagelaw17_ApplyOwn.l3] at H
              by_cases c39 : x22_4 < (t266.length : Int)
              ·rw [if_pos c39] at H
               have c39b0 : decide (x22_4 < (t266.length : Int)) = true := decide_eq_true c39
               clear c39
               by_cases c40 : 0 ≤ x22_4
               ·rw [if_pos c40] at H
                have c40b0 : decide (0 ≤ x22_4) = true := decide_eq_true c40
                clear c40
                by_cases c41 : x22_4 < (t276.length : Int)
                ·rw [if_pos c41] at H
                 have c41b0 : decide (x22_4 < (t276.length : Int)) = true := decide_eq_true c41
                 clear c41
                 by_cases c42 : (rd t266 x22_4) = (rd t276 x22_4)
                 ·rw [if_pos c42] at H
                  have c42b0 : ((rd t266 x22_4) == (rd t276 x22_4)) = true := beq_iff_eq.mpr c42
                  have c42b1 : ((rd t266 x22_4) != (rd t276 x22_4)) = false := bne_eq_false_iff_eq.mpr c42
                  clear c42
                  have H' := Aside0.mk H
                  clear H
                  have p284 : 0 ≤ (x22_4 : Int) := ofDec
                  have q284 : x22_4 < (t266.length : Int) := ofDec
                  obtain ⟨ad284, e284, hx284_0⟩ := Kd.at_int (Kd.R_reads' HO_16.out).2.2 x22_4 p284 q284
                  cases e284
                  replace p284 := eq_true p284
                  replace q284 := eq_true q284
                  have p285 : 0 ≤ (x22_4 : Int) := ofDec
                  have q285 : x22_4 < (t276.length : Int) := ofDec
                  obtain ⟨ad285, e285, hx285_0⟩ := Kd.at_int (Kd.R_reads' HO_20.out).2.2 x22_4 p285 q285
                  cases e285
                  replace p285 := eq_true p285
                  replace q285 := eq_true q285
                  go_wp2
                  repeat (go_quiet (fail); try go_wp2)
                  go_roundg k4
                  case measure => have := HK1.out; have := HK2.out; have := HK3.out; have := HK4.out; omega
                  case rel => exact ⟨(wrap64 (x22_4 + 1)), eqNow, H', ⟨by have := HK1.out; have := HK2.out; have := HK3.out; have := HK4.out; omega⟩, ⟨by (with_reducible repeat (first | apply Kd.R_alloc | apply Kd.R_drewN | apply Kd.R_drew)); (first | exact HO_7.out | exact Kd.R_mono HO_7.out (fun k_ h_ h2_ => h_ (h2_.trans ((fun (A_ : Option Addr) (n_ m_ c_ : Nat) => (show (Value.slice A_ n_ c_).ownBlock = (Value.slice A_ m_ c_).ownBlock by cases A_ <;> rfl)) _ _ _ _))))⟩, ⟨by (with_reducible repeat (first | apply Kd.R_alloc | apply Kd.R_drewN | apply Kd.R_drew)); (first | exact HO_14.out | exact Kd.R_mono HO_14.out (fun k_ h_ h2_ => h_ (h2_.trans ((fun (A_ : Option Addr) (n_ m_ c_ : Nat) => (show (Value.slice A_ n_ c_).ownBlock = (Value.slice A_ m_ c_).ownBlock by cases A_ <;> rfl)) _ _ _ _))))⟩, ⟨by (with_reducible repeat (first | apply Kd.R_alloc | apply Kd.R_drewN | apply Kd.R_drew)); (first | exact HO_16.out | exact Kd.R_mono HO_16.out (fun k_ h_ h2_ => h_ (h2_.trans ((fun (A_ : Option Addr) (n_ m_ c_ : Nat) => (show (Value.slice A_ n_ c_).ownBlock = (Value.slice A_ m_ c_).ownBlock by cases A_ <;> rfl)) _ _ _ _))))⟩, ⟨by (with_reducible repeat (first | apply Kd.R_alloc | apply Kd.R_drewN | apply Kd.R_drew)); (first | exact HO_18.out | exact Kd.R_mono HO_18.out (fun k_ h_ h2_ => h_ (h2_.trans ((fun (A_ : Option Addr) (n_ m_ c_ : Nat) => (show (Value.slice A_ n_ c_).ownBlock = (Value.slice A_ m_ c_).ownBlock by cases A_ <;> rfl)) _ _ _ _))))⟩, ⟨by (with_reducible repeat (first | apply Kd.R_alloc | apply Kd.R_drewN | apply Kd.R_drew)); (first | exact HO_20.out | exact Kd.R_mono HO_20.out (fun k_ h_ h2_ => h_ (h2_.trans ((fun (A_ : Option Addr) (n_ m_ c_ : Nat) => (show (Value.slice A_ n_ c_).ownBlock = (Value.slice A_ m_ c_).ownBlock by cases A_ <;> rfl)) _ _ _ _))))⟩, ⟨belNow⟩⟩
                 ·rw [if_neg c42] at H
                  exact absurd H (by simp)
                ·rw [if_neg c41] at H
                 exact absurd H (by simp)
               ·rw [if_neg c40] at H
                exact absurd H (by simp)
              ·rw [if_neg c39] at H
               have c39b0 : decide (x22_4 < (t266.length : Int)) = false := decide_eq_false c39
               clear c39
               replace H := Option.bind_eq_some_iff.mp H
               obtain ⟨t286, A430, H⟩ := H
               replace H : (if t286 = true then ((selvagelaw17_num.f t267).bind fun t287 => (if t287 = t277 then (if 0 ≤ (wrap64 ((y261.length : Int) - 1)) then (if (wrap64 ((y261.length : Int) - 1)) < (y261.length : Int) then (if (rdOf ByteArray.empty y261 (wrap64 ((y261.length : Int) - 1))).toList = ([109, 111, 114, 101] : List UInt8) then ((selvagelaw17_sure.f k4).bind fun t289 => (some t289)) else (none)) else (none)) else (none)) else (none))) else (none)) = some r := H
               have A43 := Aside0.mk A430
               clear A430
               by_cases c44 : t286 = true
               ·subst c44
                have H1 : ((selvagelaw17_num.f t267).bind fun t287 => (if t287 = t277 then (if 0 ≤ (wrap64 ((y261.length : Int) - 1)) then (if (wrap64 ((y261.length : Int) - 1)) < (y261.length : Int) then (if (rdOf ByteArray.empty y261 (wrap64 ((y261.length : Int) - 1))).toList = ([109, 111, 114, 101] : List UInt8) then ((selvagelaw17_sure.f k4).bind fun t289 => (some t289)) else (none)) else (none)) else (none)) else (none))) = some r := by rw [if_pos rfl] at H; exact H
                clear H
                have H := H1
                clear H1
                replace H := Option.bind_eq_some_iff.mp H
                obtain ⟨t287, A450, H⟩ := H
                replace H : (if t287 = t277 then (if 0 ≤ (wrap64 ((y261.length : Int) - 1)) then (if (wrap64 ((y261.length : Int) - 1)) < (y261.length : Int) then (if (rdOf ByteArray.empty y261 (wrap64 ((y261.length : Int) - 1))).toList = ([109, 111, 114, 101] : List UInt8) then ((selvagelaw17_sure.f k4).bind fun t289 => (some t289)) else (none)) else (none)) else (none)) else (none)) = some r := H
                have A45 := Aside0.mk A450
                clear A450
                by_cases c46 : t287 = t277
                ·rw [if_pos c46] at H
                 have c46b0 : (t287 == t277) = true := beq_iff_eq.mpr c46
                 have c46b1 : (t287 != t277) = false := bne_eq_false_iff_eq.mpr c46
                 clear c46
                 obtain ⟨ji47, hji47⟩ : ∃ j_ : Int, (wrap64 ((y261.length : Int) - 1)) = j_ := ⟨_, rfl⟩
                 replace H : (if 0 ≤ (ji47) then (if (ji47) < (y261.length : Int) then (if (rdOf ByteArray.empty y261 (ji47)).toList = ([109, 111, 114, 101] : List UInt8) then ((selvagelaw17_sure.f k4).bind fun t289 => (some t289)) else (none)) else (none)) else (none)) = some r := by first | (rw [hji47] at H; exact H) | (simp only [hji47] at H ⊢; exact H)
                 (try rw [hji47] at A43)
                 (try rw [hji47] at A45)
                 have hji47w : (IntKind.i64.wrap ((y261.length : Int) - 1)) = ji47 := (i64_w _).trans hji47
                 by_cases c48 : 0 ≤ (ji47)
                 ·rw [if_pos c48] at H
                  have c48b0 : decide (0 ≤ (ji47)) = true := decide_eq_true c48
                  clear c48
                  by_cases c49 : (ji47) < (y261.length : Int)
                  ·rw [if_pos c49] at H
                   have c49b0 : decide ((ji47) < (y261.length : Int)) = true := decide_eq_true c49
                   clear c49
                   by_cases c50 : (rdOf ByteArray.empty y261 (ji47)).toList = ([109, 111, 114, 101] : List UInt8)
                   ·rw [if_pos c50] at H
                    have c50b0 : ((rdOf ByteArray.empty y261 (ji47)).toList == ([109, 111, 114, 101] : List UInt8)) = true := beq_iff_eq.mpr c50
                    have c50b1 : ((rdOf ByteArray.empty y261 (ji47)).toList != ([109, 111, 114, 101] : List UInt8)) = false := bne_eq_false_iff_eq.mpr c50
                    clear c50
                    replace H := Option.bind_eq_some_iff.mp H
                    obtain ⟨t289, A510, H⟩ := H
                    replace H : (some t289) = some r := H
                    have A51 := Aside0.mk A510
                    clear A510
                    obtain rfl := Option.some.inj H
                    obtain ⟨Ao52, co52, eo52⟩ := Kd.R_slice HO_14.out
                    subst eo52
                    obtain ⟨Ao53, co53, eo53⟩ := Kd.R_slice HO_18.out
                    subst eo53
                    go_wp2_with (first | (go_at_call 8; (with_reducible refine (selvagelaw17_same.calls k4 _ _ t264 _ _ t274 true _ ?side1 ?side2 ?side3 ?side4 A43.out).mono ?_); (case side1 => repeat (first | exact (Kd.R_reads' HO_14.out).2.2 | (with_reducible refine Kd.C_alloc ?_ _) | (with_reducible refine Kd.C_drewN ?_ _) | (with_reducible refine Kd.C_drew ?_))); (case side2 => exact (Kd.R_reads' HO_14.out).2.1); (case side3 => repeat (first | exact (Kd.R_reads' HO_18.out).2.2 | (with_reducible refine Kd.C_alloc ?_ _) | (with_reducible refine Kd.C_drewN ?_ _) | (with_reducible refine Kd.C_drew ?_))); (case side4 => exact (Kd.R_reads' HO_18.out).2.1); rintro e w' ⟨rfl, ⟨nd, rfl⟩⟩; (try first | exact ⟨rfl, _, World.drewN_drewN _ _ _⟩ | exact ⟨rfl, _, Eq.trans (World.drewN_drewN _ _ _) (congrArg (World.drewN _) (Nat.add_assoc _ _ _))⟩); have CA45 := fun W (hG_ : Glob W) => selvagelaw17_num.calls t267 t287 W hG_ A45.out; try simp only [errW_none, errW_some] at CA45) | (go_at_call 9; (with_reducible refine (CA45 _ ?side1).mono ?_); (case side1 => exact Glob.below hGL belNow); rintro e w54 ⟨rfl, hb⟩; have n0_ := Aside0.mk (Kd.R_below (kdUp HO_7.out) hb); have n1_ := Aside0.mk (Kd.R_below (kdUp HO_14.out) hb); have n2_ := Aside0.mk (Kd.R_below (kdUp HO_16.out) hb); have n3_ := Aside0.mk (Kd.R_below (kdUp HO_18.out) hb); have n4_ := Aside0.mk (Kd.R_below (kdUp HO_20.out) hb); have n5_ := Aside0.mk (below_step belNow hb); clear HO_7; clear HO_14; clear HO_16; clear HO_18; clear HO_20; clear HB; have HO_7 := n0_; have HO_14 := n1_; have HO_16 := n2_; have HO_18 := n3_; have HO_20 := n4_; have HB := n5_; clear n0_ n1_ n2_ n3_ n4_ n5_; (try clear hb); (try clear hb2); (try clear hk); (try clear hi); obtain ⟨Ao55, co55, eo55⟩ := Kd.R_slice HO_7.out; subst eo55; have p288 : 0 ≤ ((ji47) : Int) := ofDec; have q288 : (ji47) < (y261.length : Int) := ofDec; obtain ⟨ad288, e288, hx288_0⟩ := Kd.at_string (Kd.R_reads' HO_7.out).2.2 (ji47) p288 q288; cases e288; replace p288 := eq_true p288; replace q288 := eq_true q288) | (go_at_call 11; (with_reducible refine (selvagelaw17_sure.calls k4  t289 _ A51.out).mono ?_); rintro e w56 ⟨rfl, hb⟩; have n0_ := Aside0.mk (Kd.R_below (kdUp HO_7.out) hb); have n1_ := Aside0.mk (Kd.R_below (kdUp HO_14.out) hb); have n2_ := Aside0.mk (Kd.R_below (kdUp HO_16.out) hb); have n3_ := Aside0.mk (Kd.R_below (kdUp HO_18.out) hb); have n4_ := Aside0.mk (Kd.R_below (kdUp HO_20.out) hb); have n5_ := Aside0.mk (below_step belNow hb); clear HO_7; clear HO_14; clear HO_16; clear HO_18; clear HO_20; clear HB; have HO_7 := n0_; have HO_14 := n1_; have HO_16 := n2_; have HO_18 := n3_; have HO_20 := n4_; have HB := n5_; clear n0_ n1_ n2_ n3_ n4_ n5_; (try clear hb); (try clear hb2); (try clear hk); (try clear hi)))
                    repeat (go_quiet (first | (go_at_call 8; (with_reducible refine (selvagelaw17_same.calls k4 _ _ t264 _ _ t274 true _ ?side1 ?side2 ?side3 ?side4 A43.out).mono ?_); (case side1 => repeat (first | exact (Kd.R_reads' HO_14.out).2.2 | (with_reducible refine Kd.C_alloc ?_ _) | (with_reducible refine Kd.C_drewN ?_ _) | (with_reducible refine Kd.C_drew ?_))); (case side2 => exact (Kd.R_reads' HO_14.out).2.1); (case side3 => repeat (first | exact (Kd.R_reads' HO_18.out).2.2 | (with_reducible refine Kd.C_alloc ?_ _) | (with_reducible refine Kd.C_drewN ?_ _) | (with_reducible refine Kd.C_drew ?_))); (case side4 => exact (Kd.R_reads' HO_18.out).2.1); rintro e w' ⟨rfl, ⟨nd, rfl⟩⟩; (try first | exact ⟨rfl, _, World.drewN_drewN _ _ _⟩ | exact ⟨rfl, _, Eq.trans (World.drewN_drewN _ _ _) (congrArg (World.drewN _) (Nat.add_assoc _ _ _))⟩); have CA45 := fun W (hG_ : Glob W) => selvagelaw17_num.calls t267 t287 W hG_ A45.out; try simp only [errW_none, errW_some] at CA45) | (go_at_call 9; (with_reducible refine (CA45 _ ?side1).mono ?_); (case side1 => exact Glob.below hGL belNow); rintro e w54 ⟨rfl, hb⟩; have n0_ := Aside0.mk (Kd.R_below (kdUp HO_7.out) hb); have n1_ := Aside0.mk (Kd.R_below (kdUp HO_14.out) hb); have n2_ := Aside0.mk (Kd.R_below (kdUp HO_16.out) hb); have n3_ := Aside0.mk (Kd.R_below (kdUp HO_18.out) hb); have n4_ := Aside0.mk (Kd.R_below (kdUp HO_20.out) hb); have n5_ := Aside0.mk (below_step belNow hb); clear HO_7; clear HO_14; clear HO_16; clear HO_18; clear HO_20; clear HB; have HO_7 := n0_; have HO_14 := n1_; have HO_16 := n2_; have HO_18 := n3_; have HO_20 := n4_; have HB := n5_; clear n0_ n1_ n2_ n3_ n4_ n5_; (try clear hb); (try clear hb2); (try clear hk); (try clear hi); obtain ⟨Ao55, co55, eo55⟩ := Kd.R_slice HO_7.out; subst eo55; have p288 : 0 ≤ ((ji47) : Int) := ofDec; have q288 : (ji47) < (y261.length : Int) := ofDec; obtain ⟨ad288, e288, hx288_0⟩ := Kd.at_string (Kd.R_reads' HO_7.out).2.2 (ji47) p288 q288; cases e288; replace p288 := eq_true p288; replace q288 := eq_true q288) | (go_at_call 11; (with_reducible refine (selvagelaw17_sure.calls k4  t289 _ A51.out).mono ?_); rintro e w56 ⟨rfl, hb⟩; have n0_ := Aside0.mk (Kd.R_below (kdUp HO_7.out) hb); have n1_ := Aside0.mk (Kd.R_below (kdUp HO_14.out) hb); have n2_ := Aside0.mk (Kd.R_below (kdUp HO_16.out) hb); have n3_ := Aside0.mk (Kd.R_below (kdUp HO_18.out) hb); have n4_ := Aside0.mk (Kd.R_below (kdUp HO_20.out) hb); have n5_ := Aside0.mk (below_step belNow hb); clear HO_7; clear HO_14; clear HO_16; clear HO_18; clear HO_20; clear HB; have HO_7 := n0_; have HO_14 := n1_; have HO_16 := n2_; have HO_18 := n3_; have HO_20 := n4_; have HB := n5_; clear n0_ n1_ n2_ n3_ n4_ n5_; (try clear hb); (try clear hb2); (try clear hk); (try clear hi))); try go_wp2_with (first | (go_at_call 8; (with_reducible refine (selvagelaw17_same.calls k4 _ _ t264 _ _ t274 true _ ?side1 ?side2 ?side3 ?side4 A43.out).mono ?_); (case side1 => repeat (first | exact (Kd.R_reads' HO_14.out).2.2 | (with_reducible refine Kd.C_alloc ?_ _) | (with_reducible refine Kd.C_drewN ?_ _) | (with_reducible refine Kd.C_drew ?_))); (case side2 => exact (Kd.R_reads' HO_14.out).2.1); (case side3 => repeat (first | exact (Kd.R_reads' HO_18.out).2.2 | (with_reducible refine Kd.C_alloc ?_ _) | (with_reducible refine Kd.C_drewN ?_ _) | (with_reducible refine Kd.C_drew ?_))); (case side4 => exact (Kd.R_reads' HO_18.out).2.1); rintro e w' ⟨rfl, ⟨nd, rfl⟩⟩; (try first | exact ⟨rfl, _, World.drewN_drewN _ _ _⟩ | exact ⟨rfl, _, Eq.trans (World.drewN_drewN _ _ _) (congrArg (World.drewN _) (Nat.add_assoc _ _ _))⟩); have CA45 := fun W (hG_ : Glob W) => selvagelaw17_num.calls t267 t287 W hG_ A45.out; try simp only [errW_none, errW_some] at CA45) | (go_at_call 9; (with_reducible refine (CA45 _ ?side1).mono ?_); (case side1 => exact Glob.below hGL belNow); rintro e w54 ⟨rfl, hb⟩; have n0_ := Aside0.mk (Kd.R_below (kdUp HO_7.out) hb); have n1_ := Aside0.mk (Kd.R_below (kdUp HO_14.out) hb); have n2_ := Aside0.mk (Kd.R_below (kdUp HO_16.out) hb); have n3_ := Aside0.mk (Kd.R_below (kdUp HO_18.out) hb); have n4_ := Aside0.mk (Kd.R_below (kdUp HO_20.out) hb); have n5_ := Aside0.mk (below_step belNow hb); clear HO_7; clear HO_14; clear HO_16; clear HO_18; clear HO_20; clear HB; have HO_7 := n0_; have HO_14 := n1_; have HO_16 := n2_; have HO_18 := n3_; have HO_20 := n4_; have HB := n5_; clear n0_ n1_ n2_ n3_ n4_ n5_; (try clear hb); (try clear hb2); (try clear hk); (try clear hi); obtain ⟨Ao55, co55, eo55⟩ := Kd.R_slice HO_7.out; subst eo55; have p288 : 0 ≤ ((ji47) : Int) := ofDec; have q288 : (ji47) < (y261.length : Int) := ofDec; obtain ⟨ad288, e288, hx288_0⟩ := Kd.at_string (Kd.R_reads' HO_7.out).2.2 (ji47) p288 q288; cases e288; replace p288 := eq_true p288; replace q288 := eq_true q288) | (go_at_call 11; (with_reducible refine (selvagelaw17_sure.calls k4  t289 _ A51.out).mono ?_); rintro e w56 ⟨rfl, hb⟩; have n0_ := Aside0.mk (Kd.R_below (kdUp HO_7.out) hb); have n1_ := Aside0.mk (Kd.R_below (kdUp HO_14.out) hb); have n2_ := Aside0.mk (Kd.R_below (kdUp HO_16.out) hb); have n3_ := Aside0.mk (Kd.R_below (kdUp HO_18.out) hb); have n4_ := Aside0.mk (Kd.R_below (kdUp HO_20.out) hb); have n5_ := Aside0.mk (below_step belNow hb); clear HO_7; clear HO_14; clear HO_16; clear HO_18; clear HO_20; clear HB; have HO_7 := n0_; have HO_14 := n1_; have HO_16 := n2_; have HO_18 := n3_; have HO_20 := n4_; have HB := n5_; clear n0_ n1_ n2_ n3_ n4_ n5_; (try clear hb); (try clear hb2); (try clear hk); (try clear hi))))
                    go_ret
                    exact ⟨by first | rfl | (simp [errW_none, errW_some] <;> rfl) | (simp only [← hji47]; first | rfl | (simp [errW_none, errW_some] <;> rfl)) | (simp [*, errW_none, errW_some] <;> rfl) | (simp only [i64_w, i32_w, u8_w]; first | rfl | (simp [errW_none, errW_some] <;> rfl)) | (simp only [bne_nil, beq_nil]; first | rfl | (simp <;> rfl)), belNow⟩
                   ·rw [if_neg c50] at H
                    exact absurd H (by simp)
                  ·rw [if_neg c49] at H
                   exact absurd H (by simp)
                 ·rw [if_neg c48] at H
                  exact absurd H (by simp)
                ·rw [if_neg c46] at H
                 exact absurd H (by simp)
               ·rw [if_neg c44] at H
                exact absurd H (by simp)
           ·rw [if_neg c29] at H
            exact absurd H (by simp)
          ·rw [if_neg c26] at H
           exact absurd H (by simp)
end Go.Proofs.YtkoagpnoaibdjaaDoor.Pp
