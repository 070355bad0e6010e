import Derived.Test.YtkoagpnoaibdjaaESt
import Derived.Test.YtkoagpnoaibdjaaPp0
namespace Go.Proofs.Ytkoagpnoaibdjaa.Pp
open Go.RowKit Go.Proofs.Ytkoagpnoaibdjaa.Ext Go.Proofs.YtkoagpnoaibdjaaW.PrintWords Go.Proofs.YtkoagpnoaibdjaaW.PrintLast Go.Proofs.YtkoagpnoaibdjaaW.PrintMore
attribute [local go_sem] max2_int min2_int max_two min_two max_three min_three max_four min_four   -- for this text's walks alone
set_option linter.unusedVariables false
set_option linter.unusedSimpArgs false
mutual
def selvagelaw17_common.l0 : Nat → Int → Int → Int → List (S57) → List ByteArray → List ByteArray → Int → Int → Option (Bool)
 | 0, _, _, _, _, _, _, _, _ => none
 | k + 1, x3, x4, x5, x231000, x231001, x231002, x231003, x231004 => if x5 ≤ (x231000.length : Int) then (if x5 < (x231000.length : Int) then (if 0 ≤ x5 then (selvagelaw17_common.j1 k x3 x4 x5 ((rd_T57 x231000 x5).f0) x231000 x231001 x231002 x231003 x231004) else (none)) else (selvagelaw17_common.j1 k x3 x4 x5 (x231001.length : Int) x231000 x231001 x231002 x231003 x231004)) else (some true)
def selvagelaw17_common.j1 : Nat → Int → Int → Int → Int → List (S57) → List ByteArray → List ByteArray → Int → Int → Option (Bool)
 | 0, _, _, _, _, _, _, _, _, _ => none
 | k + 1, x3, x4, x5, x6, x231000, x231001, x231002, x231003, x231004 => selvagelaw17_common.l1 k x3 x4 x5 x6 x231000 x231001 x231002 x231003 x231004
def selvagelaw17_common.l1 : Nat → Int → Int → Int → Int → List (S57) → List ByteArray → List ByteArray → Int → Int → Option (Bool)
 | 0, _, _, _, _, _, _, _, _, _ => none
 | k + 1, x3, x4, x5, x6, x231000, x231001, x231002, x231003, x231004 => if x3 < x6 then (if x4 ≥ (x231002.length : Int) then (some false) else (if 0 ≤ x3 then (if x3 < (x231001.length : Int) then (if 0 ≤ x4 then (if x4 < (x231002.length : Int) then (if (rdOf ByteArray.empty x231001 x3).toList = (rdOf ByteArray.empty x231002 x4).toList then (selvagelaw17_common.l1 k (wrap64 (x3 + 1)) (wrap64 (x4 + 1)) x5 x6 x231000 x231001 x231002 x231003 x231004) else (some false)) else (none)) else (none)) else (none)) else (none))) else (if x5 < (x231000.length : Int) then (if 0 ≤ x5 then (selvagelaw17_common.l0 k (wrap64 (x3 + ((rd_T57 x231000 x5).f1))) (wrap64 (x4 + ((rd_T57 x231000 x5).f3))) (wrap64 (x5 + 1)) x231000 x231001 x231002 x231003 x231004) else (none)) else (selvagelaw17_common.l0 k x3 x4 (wrap64 (x5 + 1)) x231000 x231001 x231002 x231003 x231004))
end
def selvagelaw17_common.f (k : Nat) (l0_0 : List (S57)) (l0_1 : List ByteArray) (l0_2 : List ByteArray) (a0_3 : Int) (a0_4 : Int) : Option (Bool) := selvagelaw17_common.l0 k 0 0 0 l0_0 l0_1 l0_2 a0_3 a0_4
set_option maxHeartbeats 80000000 in
set_option maxRecDepth 100000 in
theorem selvagelaw17_common.calls (k : Nat) (A0_0 : Option Addr) (c0_0 : Nat) (l0_0 : List (S57)) (A0_1 : Option Addr) (c0_1 : Nat) (l0_1 : List ByteArray) (A0_2 : Option Addr) (c0_2 : Nat) (l0_2 : List ByteArray) (a0_3 : Int) (a0_4 : Int) (r : Bool) (w : World) (hr0_0 : Kd.C k57 w A0_0 l0_0.length l0_0) (hc0_0 : l0_0.length ≤ c0_0) (hr0_1 : Kd.C Kd.string w A0_1 l0_1.length l0_1) (hc0_1 : l0_1.length ≤ c0_1) (hr0_2 : Kd.C Kd.string w A0_2 l0_2.length l0_2) (hc0_2 : l0_2.length ≤ c0_2) (h : selvagelaw17_common.f k l0_0 l0_1 l0_2 a0_3 a0_4 = some r) :
  Calls Try.prog 7 #[.agg #[.slice A0_0 l0_0.length c0_0, .slice A0_1 l0_1.length c0_1, .slice A0_2 l0_2.length c0_2, .int .i64 a0_3, .int .i64 a0_4]] w fun e w' => e = .returned (.bool r) ∧ Below w.heap.size w w' := by
 have hu25 := Try.underlying25
 have HR0_0 := Aside0.mk hr0_0
 have HC0_0 := Aside0.mk hc0_0
 clear hr0_0 hc0_0
 have HR0_1 := Aside0.mk hr0_1
 have HC0_1 := Aside0.mk hc0_1
 clear hr0_1 hc0_1
 have HR0_2 := Aside0.mk hr0_2
 have HC0_2 := Aside0.mk hc0_2
 clear hr0_2 hc0_2
 have HB := Aside0.mk (Below.refl w.heap.size w)
 have H := h
 clear h
 unfold selvagelaw17_common.f at H
 have H' := Aside0.mk H
 clear H
 go_enter Try.func7, Try.ntmps7
 try simp only [List.append_eq, List.cons_append, List.nil_append]
 go_wp2_with (first | ((with_reducible refine gate_dst (N := 1) rfl ?_); refine boxEv (N := 1) #[.slice A0_0 l0_0.length c0_0, .slice A0_1 l0_1.length c0_1, .slice A0_2 l0_2.length c0_2, .int .i64 a0_3, .int .i64 a0_4] 25 ?_; intro gb230 hg w2 hbox hb; have BK230 := Aside0.mk hbox; have GW230 := gwN HB hg; have GE230 := GW230; replace HB := hbD HB hb; clear hb hbox hg))
 repeat (go_quiet (first | ((with_reducible refine gate_dst (N := 1) rfl ?_); refine boxEv (N := 1) #[.slice A0_0 l0_0.length c0_0, .slice A0_1 l0_1.length c0_1, .slice A0_2 l0_2.length c0_2, .int .i64 a0_3, .int .i64 a0_4] 25 ?_; intro gb230 hg w2 hbox hb; have BK230 := Aside0.mk hbox; have GW230 := gwN HB hg; have GE230 := GW230; replace HB := hbD HB hb; clear hb hbox hg)); try go_wp2_with (first | ((with_reducible refine gate_dst (N := 1) rfl ?_); refine boxEv (N := 1) #[.slice A0_0 l0_0.length c0_0, .slice A0_1 l0_1.length c0_1, .slice A0_2 l0_2.length c0_2, .int .i64 a0_3, .int .i64 a0_4] 25 ?_; intro gb230 hg w2 hbox hb; have BK230 := Aside0.mk hbox; have GW230 := gwN HB hg; have GE230 := GW230; replace HB := hbD HB hb; clear hb hbox hg)))
 go_loopg [3, 4, 5] k (fun kq v3 v4 v5 w' => ∃ (x3_1 : Int) (x4_1 : Int) (x5_1 : Int), v3 = .int .i64 x3_1 ∧ v4 = .int .i64 x4_1 ∧ v5 = .int .i64 x5_1 ∧ Aside0 (selvagelaw17_common.l0 kq x3_1 x4_1 x5_1 l0_0 l0_1 l0_2 a0_3 a0_4 = some r) ∧ Aside0 (kq ≤ k) ∧ Aside0 (w'.heap[gb230]? = some (.cells #[(.slice A0_0 l0_0.length c0_0), (.slice A0_1 l0_1.length c0_1), (.slice A0_2 l0_2.length c0_2), .int .i64 a0_3, .int .i64 a0_4] 25 (0, 0))) ∧ Aside0 (Below w.heap.size w w'))
 case atStart => exact ⟨(0), (0), (0), eqNow, eqNow, eqNow, H', ⟨Nat.le_refl _⟩, ⟨bkUp BK230.out⟩, ⟨belPut⟩⟩
 case round =>
  clear H'
  obtain ⟨x3_1, x4_1, x5_1, rfl, rfl, rfl, HA, HK1, BK230, HB⟩ := hrel
  cases gk with
  | zero => exact absurd HA.out (by simp [selvagelaw17_common.l0])
  | succ k1 =>
   have H := HA.out
   clear HA
   simp only [selvagelaw17_common.l0] at H
   replace H := itLn H
   rcases H with ⟨-, c3b0, H⟩ | ⟨-, c3b0, H⟩
   ·obtain rfl := Option.some.inj H
    have hcz23_0 := bkc (v := .slice A0_0 l0_0.length c0_0) BK230.out 0 rfl
    have hcz23_1 := bkc (v := .slice A0_1 l0_1.length c0_1) BK230.out 1 rfl
    have hcz23_2 := bkc (v := .slice A0_2 l0_2.length c0_2) BK230.out 2 rfl
    have hcz23_3 := bkc (v := .int .i64 a0_3) BK230.out 3 rfl
    have hcz23_4 := bkc (v := .int .i64 a0_4) BK230.out 4 rfl
    have hfz23_0 := blk_frozen BK230.out 0
    have hfz23_1 := blk_frozen BK230.out 1
    have hfz23_2 := blk_frozen BK230.out 2
    have hfz23_3 := blk_frozen BK230.out 3
    have hfz23_4 := blk_frozen BK230.out 4
    go_wp2
    repeat (go_quiet (fail); try go_wp2)
    go_ret
    exact ⟨eqEnd, belPut⟩
   have HC4 := Aside0.mk H
   clear H
   have hcz5_0 := bkc (v := .slice A0_0 l0_0.length c0_0) BK230.out 0 rfl
   have hcz5_1 := bkc (v := .slice A0_1 l0_1.length c0_1) BK230.out 1 rfl
   have hcz5_2 := bkc (v := .slice A0_2 l0_2.length c0_2) BK230.out 2 rfl
   have hcz5_3 := bkc (v := .int .i64 a0_3) BK230.out 3 rfl
   have hcz5_4 := bkc (v := .int .i64 a0_4) BK230.out 4 rfl
   have hfz5_0 := blk_frozen BK230.out 0
   have hfz5_1 := blk_frozen BK230.out 1
   have hfz5_2 := blk_frozen BK230.out 2
   have hfz5_3 := blk_frozen BK230.out 3
   have hfz5_4 := blk_frozen BK230.out 4
   go_upto_if 21 with (fail)
   repeat (go_quiet (fail); go_upto_if 21 with (fail))
   go_cut [6] (fun v6 wc => ∃ (kq : Nat) (x6_3 : Int), v6 = .int .i64 x6_3 ∧ Aside0 (selvagelaw17_common.j1 kq x3_1 x4_1 x5_1 x6_3 l0_0 l0_1 l0_2 a0_3 a0_4 = some r) ∧ Aside0 (kq ≤ k1) ∧ Aside0 (wc.heap[gb230]? = some (.cells #[(.slice A0_0 l0_0.length c0_0), (.slice A0_1 l0_1.length c0_1), (.slice A0_2 l0_2.length c0_2), .int .i64 a0_3, .int .i64 a0_4] 25 (0, 0))) ∧ Aside0 (Below w.heap.size w wc))
   case first =>
    have H := HC4.out
    clear HC4
    replace H := itLn H
    rcases H with ⟨-, c6b0, H⟩ | ⟨-, c6b0, H⟩
    ·(first | rw [c6b0] | (simp only [i64_w, i32_w]; rw [c6b0]) | skip)
     have H' := Aside0.mk H
     clear H
     go_wp2
     repeat (go_quiet (fail); try go_wp2)
     go_meet
     case rel => exact ⟨_, ((l0_1.length : Int)), eqNow, H', ⟨by have := HK1.out; first | omega | exact Nat.le_refl _⟩, ⟨bkUp BK230.out⟩, ⟨belPut⟩⟩
    (first | rw [c6b0] | (simp only [i64_w, i32_w]; rw [c6b0]) | skip)
    replace H := itLn H
    rcases H with ⟨_, _, H⟩ | ⟨-, c7b0, H⟩
    ·cases H
    have H' := Aside0.mk H
    clear H
    have hcz8_0 := bkc (v := .slice A0_0 l0_0.length c0_0) BK230.out 0 rfl
    have hcz8_1 := bkc (v := .slice A0_1 l0_1.length c0_1) BK230.out 1 rfl
    have hcz8_2 := bkc (v := .slice A0_2 l0_2.length c0_2) BK230.out 2 rfl
    have hcz8_3 := bkc (v := .int .i64 a0_3) BK230.out 3 rfl
    have hcz8_4 := bkc (v := .int .i64 a0_4) BK230.out 4 rfl
    have hfz8_0 := blk_frozen BK230.out 0
    have hfz8_1 := blk_frozen BK230.out 1
    have hfz8_2 := blk_frozen BK230.out 2
    have hfz8_3 := blk_frozen BK230.out 3
    have hfz8_4 := blk_frozen BK230.out 4
    obtain ⟨ad231, rfl, hx231_0, hx231_1, hx231_2, hx231_3, p231, q231⟩ := atU_T57 HR0_0 HB x5_1
    go_wp2
    repeat (go_quiet (fail); try go_wp2)
    go_meet
    case rel => exact ⟨_, ((rd_T57 l0_0 x5_1).f0), eqNow, H', ⟨by have := HK1.out; first | omega | exact Nat.le_refl _⟩, ⟨bkUp BK230.out⟩, ⟨belPut⟩⟩
   case rest =>
    clear HC4
    try clear c3
    try clear c3b0
    try clear hcz5_0 hcz5_1 hcz5_2 hcz5_3 hcz5_4
    try clear hfz5_0 hfz5_1 hfz5_2 hfz5_3 hfz5_4
    obtain ⟨kq, x6_3, rfl, HA, HJ3, BK230, HB⟩ := hcut
    cases kq with
    | zero => exact absurd HA.out (by simp [selvagelaw17_common.j1])
    | succ kj3 =>
     have H := HA.out
     clear HA
     simp only [selvagelaw17_common.j1] at H
     have H' := Aside0.mk H
     clear H
     go_wp2
     repeat (go_quiet (fail); try go_wp2)
     go_loopg [3, 4] kj3 (fun kq v3 v4 w' => ∃ (x3_3 : Int) (x4_3 : Int), v3 = .int .i64 x3_3 ∧ v4 = .int .i64 x4_3 ∧ Aside0 (selvagelaw17_common.l1 kq x3_3 x4_3 x5_1 x6_3 l0_0 l0_1 l0_2 a0_3 a0_4 = some r) ∧ Aside0 (kq ≤ kj3) ∧ Aside0 (w'.heap[gb230]? = some (.cells #[(.slice A0_0 l0_0.length c0_0), (.slice A0_1 l0_1.length c0_1), (.slice A0_2 l0_2.length c0_2), .int .i64 a0_3, .int .i64 a0_4] 25 (0, 0))) ∧ Aside0 (Below w.heap.size w w'))
     case atStart => exact ⟨(x3_1), (x4_1), eqNow, eqNow, H', ⟨Nat.le_refl _⟩, ⟨bkUp BK230.out⟩, ⟨belPut⟩⟩
     case round =>
      clear H'
      try clear c3
      try clear c3b0
      try clear hcz5_0 hcz5_1 hcz5_2 hcz5_3 hcz5_4
      try clear hfz5_0 hfz5_1 hfz5_2 hfz5_3 hfz5_4
      obtain ⟨x3_3, x4_3, rfl, rfl, HA, HK3, BK230, HB⟩ := hrel
      cases gk with
      | zero => exact absurd HA.out (by simp [selvagelaw17_common.l1])
      | succ k3 =>
       have H := HA.out
       clear HA
       simp only [selvagelaw17_common.l1] at H
       replace H := itLn H
       rcases H with ⟨-, c9b0, H⟩ | ⟨-, c9b0, H⟩
       ·replace H := itLn H
        rcases H with ⟨-, c19b0, H⟩ | ⟨-, c19b0, H⟩
        ·have H' := Aside0.mk H
         clear H
         have hcz22_0 := bkc (v := .slice A0_0 l0_0.length c0_0) BK230.out 0 rfl
         have hcz22_1 := bkc (v := .slice A0_1 l0_1.length c0_1) BK230.out 1 rfl
         have hcz22_2 := bkc (v := .slice A0_2 l0_2.length c0_2) BK230.out 2 rfl
         have hcz22_3 := bkc (v := .int .i64 a0_3) BK230.out 3 rfl
         have hcz22_4 := bkc (v := .int .i64 a0_4) BK230.out 4 rfl
         have hfz22_0 := blk_frozen BK230.out 0
         have hfz22_1 := blk_frozen BK230.out 1
         have hfz22_2 := blk_frozen BK230.out 2
         have hfz22_3 := blk_frozen BK230.out 3
         have hfz22_4 := blk_frozen BK230.out 4
         go_wp2
         repeat (go_quiet (fail); try go_wp2)
         go_roundg k3
         case measure => have := HK1.out; have := HJ3.out; have := HK3.out; omega
         case rel => exact ⟨(x3_3), (x4_3), (wrap64 (x5_1 + 1)), eqNow, eqNow, eqNow, H', ⟨by have := HK1.out; have := HJ3.out; have := HK3.out; omega⟩, ⟨bkUp BK230.out⟩, ⟨belPut⟩⟩
        replace H := itLn H
        rcases H with ⟨_, _, H⟩ | ⟨-, c20b0, H⟩
        ·cases H
        have H' := Aside0.mk H
        clear H
        have hcz21_0 := bkc (v := .slice A0_0 l0_0.length c0_0) BK230.out 0 rfl
        have hcz21_1 := bkc (v := .slice A0_1 l0_1.length c0_1) BK230.out 1 rfl
        have hcz21_2 := bkc (v := .slice A0_2 l0_2.length c0_2) BK230.out 2 rfl
        have hcz21_3 := bkc (v := .int .i64 a0_3) BK230.out 3 rfl
        have hcz21_4 := bkc (v := .int .i64 a0_4) BK230.out 4 rfl
        have hfz21_0 := blk_frozen BK230.out 0
        have hfz21_1 := blk_frozen BK230.out 1
        have hfz21_2 := blk_frozen BK230.out 2
        have hfz21_3 := blk_frozen BK230.out 3
        have hfz21_4 := blk_frozen BK230.out 4
        obtain ⟨ad234, rfl, hx234_0, hx234_1, hx234_2, hx234_3, p234, q234⟩ := atU_T57 HR0_0 HB x5_1
        have p235 : 0 ≤ (x5_1 : Int) := ofDec
        have q235 : x5_1 < (l0_0.length : Int) := ofDec
        obtain ⟨ad235, e235, hx235_0, hx235_1, hx235_2, hx235_3⟩ := at_T57 HR0_0.out x5_1 p235 q235
        obtain rfl : ad234 = ad235 := (by injection e235)
        replace hx235_0 := cUp HB.out hx235_0
        replace hx235_1 := cUp HB.out hx235_1
        replace hx235_2 := cUp HB.out hx235_2
        replace hx235_3 := cUp HB.out hx235_3
        replace p235 := eq_true p235
        replace q235 := eq_true q235
        go_wp2
        repeat (go_quiet (fail); try go_wp2)
        go_roundg k3
        case measure => have := HK1.out; have := HJ3.out; have := HK3.out; omega
        case rel => exact ⟨(wrap64 (x3_3 + ((rd_T57 l0_0 x5_1).f1))), (wrap64 (x4_3 + ((rd_T57 l0_0 x5_1).f3))), (wrap64 (x5_1 + 1)), eqNow, eqNow, eqNow, H', ⟨by have := HK1.out; have := HJ3.out; have := HK3.out; omega⟩, ⟨bkUp BK230.out⟩, ⟨belPut⟩⟩
       replace H := itH H
       rcases H with ⟨-, c10b0, H⟩ | ⟨-, c10b0, H⟩
       ·obtain rfl := Option.some.inj H
        have hcz11_0 := bkc (v := .slice A0_0 l0_0.length c0_0) BK230.out 0 rfl
        have hcz11_1 := bkc (v := .slice A0_1 l0_1.length c0_1) BK230.out 1 rfl
        have hcz11_2 := bkc (v := .slice A0_2 l0_2.length c0_2) BK230.out 2 rfl
        have hcz11_3 := bkc (v := .int .i64 a0_3) BK230.out 3 rfl
        have hcz11_4 := bkc (v := .int .i64 a0_4) BK230.out 4 rfl
        have hfz11_0 := blk_frozen BK230.out 0
        have hfz11_1 := blk_frozen BK230.out 1
        have hfz11_2 := blk_frozen BK230.out 2
        have hfz11_3 := blk_frozen BK230.out 3
        have hfz11_4 := blk_frozen BK230.out 4
        go_wp2
        repeat (go_quiet (fail); try go_wp2)
        go_ret
        exact ⟨eqEnd, belPut⟩
       replace H := itLn H
       rcases H with ⟨_, _, H⟩ | ⟨-, c12b0, H⟩
       ·cases H
       replace H := itLn H
       rcases H with ⟨_, _, H⟩ | ⟨-, c13b0, H⟩
       ·cases H
       replace H := itLn H
       rcases H with ⟨_, _, H⟩ | ⟨-, c14b0, H⟩
       ·cases H
       replace H := itLn H
       rcases H with ⟨_, _, H⟩ | ⟨-, c15b0, H⟩
       ·cases H
       replace H := itEn H
       rcases H with ⟨c16, c16b0, c16b1, H⟩ | ⟨-, c16b0, c16b1, H⟩
       ·obtain rfl := Option.some.inj H
        have hcz18_0 := bkc (v := .slice A0_0 l0_0.length c0_0) BK230.out 0 rfl
        have hcz18_1 := bkc (v := .slice A0_1 l0_1.length c0_1) BK230.out 1 rfl
        have hcz18_2 := bkc (v := .slice A0_2 l0_2.length c0_2) BK230.out 2 rfl
        have hcz18_3 := bkc (v := .int .i64 a0_3) BK230.out 3 rfl
        have hcz18_4 := bkc (v := .int .i64 a0_4) BK230.out 4 rfl
        have hfz18_0 := blk_frozen BK230.out 0
        have hfz18_1 := blk_frozen BK230.out 1
        have hfz18_2 := blk_frozen BK230.out 2
        have hfz18_3 := blk_frozen BK230.out 3
        have hfz18_4 := blk_frozen BK230.out 4
        have p232 : 0 ≤ (x3_3 : Int) := ofDec
        have q232 : x3_3 < (l0_1.length : Int) := ofDec
        obtain ⟨ad232, e232, hx232_0⟩ := Kd.at_string HR0_1.out x3_3 p232 q232
        cases e232
        replace hx232_0 := cUp HB.out hx232_0
        replace p232 := eq_true p232
        replace q232 := eq_true q232
        have p233 : 0 ≤ (x4_3 : Int) := ofDec
        have q233 : x4_3 < (l0_2.length : Int) := ofDec
        obtain ⟨ad233, e233, hx233_0⟩ := Kd.at_string HR0_2.out x4_3 p233 q233
        cases e233
        replace hx233_0 := cUp HB.out hx233_0
        replace p233 := eq_true p233
        replace q233 := eq_true q233
        go_wp2
        repeat (go_quiet (fail); try go_wp2)
        go_ret
        exact ⟨eqEnd, belPut⟩
       have H' := Aside0.mk H
       clear H
       have hcz17_0 := bkc (v := .slice A0_0 l0_0.length c0_0) BK230.out 0 rfl
       have hcz17_1 := bkc (v := .slice A0_1 l0_1.length c0_1) BK230.out 1 rfl
       have hcz17_2 := bkc (v := .slice A0_2 l0_2.length c0_2) BK230.out 2 rfl
       have hcz17_3 := bkc (v := .int .i64 a0_3) BK230.out 3 rfl
       have hcz17_4 := bkc (v := .int .i64 a0_4) BK230.out 4 rfl
       have hfz17_0 := blk_frozen BK230.out 0
       have hfz17_1 := blk_frozen BK230.out 1
       have hfz17_2 := blk_frozen BK230.out 2
       have hfz17_3 := blk_frozen BK230.out 3
       have hfz17_4 := blk_frozen BK230.out 4
       have p232 : 0 ≤ (x3_3 : Int) := ofDec
       have q232 : x3_3 < (l0_1.length : Int) := ofDec
       obtain ⟨ad232, e232, hx232_0⟩ := Kd.at_string HR0_1.out x3_3 p232 q232
       cases e232
       replace hx232_0 := cUp HB.out hx232_0
       replace p232 := eq_true p232
       replace q232 := eq_true q232
       have p233 : 0 ≤ (x4_3 : Int) := ofDec
       have q233 : x4_3 < (l0_2.length : Int) := ofDec
       obtain ⟨ad233, e233, hx233_0⟩ := Kd.at_string HR0_2.out x4_3 p233 q233
       cases e233
       replace hx233_0 := cUp HB.out hx233_0
       replace p233 := eq_true p233
       replace q233 := eq_true q233
       go_wp2
       repeat (go_quiet (fail); try go_wp2)
       go_roundg k3
       case measure => have := HK1.out; have := HJ3.out; have := HK3.out; omega
       case rel => exact ⟨(wrap64 (x3_3 + 1)), (wrap64 (x4_3 + 1)), eqNow, eqNow, H', ⟨by have := HK1.out; have := HJ3.out; have := HK3.out; omega⟩, ⟨bkUp BK230.out⟩, ⟨belPut⟩⟩
def stringslite_HasSuffix.f (a0 : ByteArray) (a1 : ByteArray) : Option (Bool) := if (a0.size : Int) ≥ (a1.size : Int) then (if 0 ≤ (wrap64 ((a0.size : Int) - (a1.size : Int))) then (if (wrap64 ((a0.size : Int) - (a1.size : Int))) ≤ (a0.size : Int) then (some ((a0.extract ((wrap64 ((a0.size : Int) - (a1.size : Int))) : Int).toNat a0.size).toList == a1.toList)) else (none)) else (none)) else (some false)
set_option maxHeartbeats 8000000 in
set_option maxRecDepth 100000 in
theorem stringslite_HasSuffix.calls (a0 : ByteArray) (a1 : ByteArray) (r : Bool) (w : World) (h : stringslite_HasSuffix.f a0 a1 = some r) :
  Calls Try.prog 85 #[.string a0, .string a1] w fun e w' => e = .returned (.bool r) ∧ Drawn0 w w' := by
 have H := h
 clear h
 unfold stringslite_HasSuffix.f at H
 replace H := itHn H
 rcases H with ⟨c3, c3b0, H⟩ | ⟨c3, c3b0, H⟩
 ·have c3b1 : decide (a1.size ≤ a0.size) = false := decide_eq_false (fun h => c3 (Int.ofNat_le.mpr h))
  clear c3
  obtain rfl := Option.some.inj H
  go_enter Try.func85, Try.ntmps85
  go_wp2
  go_ret
  exact ⟨eqFin, drawnNow⟩
 have c3b1 : decide (a1.size ≤ a0.size) = true := decide_eq_true (Int.ofNat_le.mp c3)
 clear c3
 obtain ⟨ji4, hji4⟩ : ∃ j_ : Int, (wrap64 ((a0.size : Int) - (a1.size : Int))) = j_ := ⟨_, rfl⟩
 first | rw [hji4] at H | simp only [hji4] at H
 have hji4w : (IntKind.i64.wrap ((a0.size : Int) - (a1.size : Int))) = ji4 := (i64_w _).trans hji4
 replace H := itLn H
 rcases H with ⟨_, _, H⟩ | ⟨c5, -, H⟩
 ·cases H
 have c5b0 := eq_true c5
 have c5b1 : decide (0 ≤ (ji4)) = true := decide_eq_true c5
 clear c5
 replace H := itLn H
 rcases H with ⟨_, _, H⟩ | ⟨c6, -, H⟩
 ·cases H
 have c6b0 := eq_true c6
 have c6b1 : decide ((ji4) ≤ (a0.size : Int)) = true := decide_eq_true c6
 clear c6
 obtain rfl := Option.some.inj H
 go_enter Try.func85, Try.ntmps85
 go_wp2
 go_ret
 exact ⟨by first | rfl | (simp; done) | (simp only [← hji4] <;> (first | rfl | simp)) | (simp [*]; done) | (simp [*] <;> rfl) | (simp only [i64_w, i32_w, u8_w]; first | rfl | (simp [errW_none, errW_some] <;> rfl)) | (simp only [bne_nil, beq_nil]; first | rfl | (simp <;> rfl)), drawnNow⟩
def stringslite_TrimSuffix.f (a0 : ByteArray) (a1 : ByteArray) : Option (ByteArray) := (stringslite_HasSuffix.f a0 a1).bind fun t236 => (if t236 = true then (if 0 ≤ (wrap64 ((a0.size : Int) - (a1.size : Int))) then (if (wrap64 ((a0.size : Int) - (a1.size : Int))) ≤ (a0.size : Int) then (some (a0.extract 0 ((wrap64 ((a0.size : Int) - (a1.size : Int))) : Int).toNat)) else (none)) else (none)) else (some a0))
set_option maxHeartbeats 8000000 in
set_option maxRecDepth 100000 in
theorem stringslite_TrimSuffix.calls (a0 : ByteArray) (a1 : ByteArray) (r : ByteArray) (w : World) (h : stringslite_TrimSuffix.f a0 a1 = some r) :
  Calls Try.prog 84 #[.string a0, .string a1] w fun e w' => e = .returned (.string r) ∧ Drawn0 w w' := by
 have H := h
 clear h
 unfold stringslite_TrimSuffix.f at H
 replace H := bdS H
 obtain ⟨t236, A3, H⟩ := H
 replace H := itBn H
 rcases H with ⟨rfl, H⟩ | ⟨rfl, H⟩
 ·obtain rfl := Option.some.inj H
  go_enter Try.func84, Try.ntmps84
  go_wp2_with (first | ((with_reducible refine gate_callee (f := 85) rfl ?_); refine goL (some 7) Try.func85 #[.string a0, .string a1] ?_; (with_reducible refine (stringslite_HasSuffix.calls a0 a1 false _ A3.out).mono ?_); rintro e w' ⟨rfl, ⟨nd, rfl⟩⟩; refine ⟨_, rfl, ?_⟩))
  go_ret
  exact ⟨eqFin, drawnNow⟩
 obtain ⟨ji5, hji5⟩ : ∃ j_ : Int, (wrap64 ((a0.size : Int) - (a1.size : Int))) = j_ := ⟨_, rfl⟩
 first | rw [hji5] at H | simp only [hji5] at H
 (try rw [hji5] at A3)
 have hji5w : (IntKind.i64.wrap ((a0.size : Int) - (a1.size : Int))) = ji5 := (i64_w _).trans hji5
 replace H := itLn H
 rcases H with ⟨_, _, H⟩ | ⟨c6, -, H⟩
 ·cases H
 have c6b0 := eq_true c6
 have c6b1 : decide (0 ≤ (ji5)) = true := decide_eq_true c6
 clear c6
 replace H := itLn H
 rcases H with ⟨_, _, H⟩ | ⟨c7, -, H⟩
 ·cases H
 have c7b0 := eq_true c7
 have c7b1 : decide ((ji5) ≤ (a0.size : Int)) = true := decide_eq_true c7
 clear c7
 obtain rfl := Option.some.inj H
 go_enter Try.func84, Try.ntmps84
 go_wp2_with (first | ((with_reducible refine gate_callee (f := 85) rfl ?_); refine goL (some 7) Try.func85 #[.string a0, .string a1] ?_; (with_reducible refine (stringslite_HasSuffix.calls a0 a1 true _ A3.out).mono ?_); rintro e w' ⟨rfl, ⟨nd, rfl⟩⟩; refine ⟨_, rfl, ?_⟩))
 go_ret
 exact ⟨by first | rfl | (simp; done) | (simp only [← hji5] <;> (first | rfl | simp)) | (simp [*]; done) | (simp [*] <;> rfl) | (simp only [i64_w, i32_w, u8_w]; first | rfl | (simp [errW_none, errW_some] <;> rfl)) | (simp only [bne_nil, beq_nil]; first | rfl | (simp <;> rfl)), drawnNow⟩
def strings_TrimSuffix.f (a0 : ByteArray) (a1 : ByteArray) : Option (ByteArray) := (stringslite_TrimSuffix.f a0 a1).bind fun t237 => (some t237)
set_option maxHeartbeats 8000000 in
set_option maxRecDepth 100000 in
theorem strings_TrimSuffix.calls (a0 : ByteArray) (a1 : ByteArray) (r : ByteArray) (w : World) (h : strings_TrimSuffix.f a0 a1 = some r) :
  Calls Try.prog 79 #[.string a0, .string a1] w fun e w' => e = .returned (.string r) ∧ Drawn0 w w' := by
 have H := h
 clear h
 unfold strings_TrimSuffix.f at H
 replace H := bdS H
 obtain ⟨t237, A3, H⟩ := H
 obtain rfl := Option.some.inj H
 go_enter Try.func79, Try.ntmps79
 go_wp2_with (first | ((with_reducible refine gate_callee (f := 84) rfl ?_); refine goL (some 7) Try.func84 #[.string a0, .string a1] ?_; (with_reducible refine (stringslite_TrimSuffix.calls a0 a1 t237 _ A3.out).mono ?_); rintro e w' ⟨rfl, ⟨nd, rfl⟩⟩; refine ⟨_, rfl, ?_⟩))
 go_ret
 exact ⟨eqFin, drawnNow⟩
def lines_Bare.f (a0 : ByteArray) : Option (ByteArray) := (strings_TrimSuffix.f a0 (⟨#[10]⟩ : ByteArray)).bind fun t238 => (some t238)
set_option maxHeartbeats 8000000 in
set_option maxRecDepth 100000 in
theorem lines_Bare.calls (a0 : ByteArray) (r : ByteArray) (w : World) (h : lines_Bare.f a0 = some r) :
  Calls Try.prog 75 #[.string a0] w fun e w' => e = .returned (.string r) ∧ Drawn0 w w' := by
 have H := h
 clear h
 unfold lines_Bare.f at H
 replace H := bdS H
 obtain ⟨t238, A2, H⟩ := H
 obtain rfl := Option.some.inj H
 go_enter Try.func75, Try.ntmps75
 go_wp2_with (first | ((with_reducible refine gate_callee (f := 79) rfl ?_); refine goL (some 4) Try.func79 #[.string a0, .string (⟨#[10]⟩ : ByteArray)] ?_; (with_reducible refine (strings_TrimSuffix.calls a0 (⟨#[10]⟩ : ByteArray) t238 _ A2.out).mono ?_); rintro e w' ⟨rfl, ⟨nd, rfl⟩⟩; refine ⟨_, rfl, ?_⟩))
 go_ret
 exact ⟨eqFin, drawnNow⟩
def hunks_line.f (a0 : ByteArray) : Option (Bool) := if a0.toList = ([] : List UInt8) then (some false) else ((lines_Bare.f a0).bind fun t239 => ((strings_Contains.f t239 (⟨#[10]⟩ : ByteArray)).bind fun t240 => (some (!t240))))
set_option maxHeartbeats 8000000 in
set_option maxRecDepth 100000 in
theorem hunks_line.calls (a0 : ByteArray) (r : Bool) (w : World) (h : hunks_line.f a0 = some r) :
  Calls Try.prog 65 #[.string a0] w fun e w' => e = .returned (.bool r) ∧ Drawn0 w w' := by
 have H := h
 clear h
 unfold hunks_line.f at H
 replace H := itE H
 rcases H with ⟨-, c2b0, c2b1, H⟩ | ⟨c2, c2b0, c2b1, H⟩
 ·obtain rfl := Option.some.inj H
  go_enter Try.func65, Try.ntmps65
  go_wp2
  go_ret
  exact ⟨eqFin, drawnNow⟩
 replace H := bdS H
 obtain ⟨t239, A3, H⟩ := H
 replace H := bdS H
 obtain ⟨t240, A4, H⟩ := H
 obtain rfl := Option.some.inj H
 go_enter Try.func65, Try.ntmps65
 go_wp2_with (first | (go_at_call 75; (with_reducible refine (lines_Bare.calls a0 t239 _ A3.out).mono ?_); rintro e w' ⟨rfl, ⟨nd, rfl⟩⟩) | (go_at_call 49; (with_reducible refine (strings_Contains.calls t239 (⟨#[10]⟩ : ByteArray) t240 _ A4.out).mono ?_); rintro e w' ⟨rfl, ⟨nd, rfl⟩⟩))
 go_ret
 exact ⟨eqFin, drawnNow⟩
def strings_HasSuffix.f (a0 : ByteArray) (a1 : ByteArray) : Option (Bool) := (stringslite_HasSuffix.f a0 a1).bind fun t241 => (some t241)
set_option maxHeartbeats 8000000 in
set_option maxRecDepth 100000 in
theorem strings_HasSuffix.calls (a0 : ByteArray) (a1 : ByteArray) (r : Bool) (w : World) (h : strings_HasSuffix.f a0 a1 = some r) :
  Calls Try.prog 80 #[.string a0, .string a1] w fun e w' => e = .returned (.bool r) ∧ Drawn0 w w' := by
 have H := h
 clear h
 unfold strings_HasSuffix.f at H
 replace H := bdS H
 obtain ⟨t241, A3, H⟩ := H
 obtain rfl := Option.some.inj H
 go_enter Try.func80, Try.ntmps80
 go_wp2_with (first | ((with_reducible refine gate_callee (f := 85) rfl ?_); refine goL (some 7) Try.func85 #[.string a0, .string a1] ?_; (with_reducible refine (stringslite_HasSuffix.calls a0 a1 t241 _ A3.out).mono ?_); rintro e w' ⟨rfl, ⟨nd, rfl⟩⟩; refine ⟨_, rfl, ?_⟩))
 go_ret
 exact ⟨eqFin, drawnNow⟩
def lines_Whole.f (a0 : ByteArray) : Option (Bool) := (strings_HasSuffix.f a0 (⟨#[10]⟩ : ByteArray)).bind fun t242 => (some t242)
set_option maxHeartbeats 8000000 in
set_option maxRecDepth 100000 in
theorem lines_Whole.calls (a0 : ByteArray) (r : Bool) (w : World) (h : lines_Whole.f a0 = some r) :
  Calls Try.prog 76 #[.string a0] w fun e w' => e = .returned (.bool r) ∧ Drawn0 w w' := by
 have H := h
 clear h
 unfold lines_Whole.f at H
 replace H := bdS H
 obtain ⟨t242, A2, H⟩ := H
 obtain rfl := Option.some.inj H
 go_enter Try.func76, Try.ntmps76
 go_wp2_with (first | ((with_reducible refine gate_callee (f := 80) rfl ?_); refine goL (some 4) Try.func80 #[.string a0, .string (⟨#[10]⟩ : ByteArray)] ?_; (with_reducible refine (strings_HasSuffix.calls a0 (⟨#[10]⟩ : ByteArray) t242 _ A2.out).mono ?_); rintro e w' ⟨rfl, ⟨nd, rfl⟩⟩; refine ⟨_, rfl, ?_⟩))
 go_ret
 exact ⟨eqFin, drawnNow⟩
/-- A state of type 93 at block g of W; what its slices lead to came in by w0. -/
def IsS93 (w0 W : World) (g : Nat) (f0 : Int) (f1 : Bool) : Prop := W.heap[g]? = some (.cells #[.int .i64 f0, .bool f1] 93 (0, 0)) ∧ w0.heap.size ≤ g
theorem IsS93.grown {w0 W : World} {g : Nat} {f0 : Int} {f1 : Bool} {W1 : World} {row : Option Nat} (h : IsS93 w0 W g f0 f1) (hw : W.grownBy W1 row) (hne : some g ≠ row) : IsS93 w0 W1 g f0 f1 := by
 obtain ⟨hb, hg⟩ := h
 exact ⟨blk_grown hb hw hne, hg⟩
theorem IsS93.kept {w0 W : World} {g : Nat} {f0 : Int} {f1 : Bool} {W1 : World} {S : Nat → Prop} (h : IsS93 w0 W g f0 f1) (hk : Kept W W1 S) (hne : ¬ S g) : IsS93 w0 W1 g f0 f1 := by
 obtain ⟨hb, hg⟩ := h
 exact ⟨blk_kept hb hk hne, hg⟩
theorem IsS93.below {w0 W : World} {g : Nat} {f0 : Int} {f1 : Bool} {W1 : World} (h : IsS93 w0 W g f0 f1) (hw : Below W.heap.size W W1) : IsS93 w0 W1 g f0 f1 := h.grown (grown_of_below hw none) (by simp)
theorem IsS93.alloc {w0 W : World} {g : Nat} {f0 : Int} {f1 : Bool} (h : IsS93 w0 W g f0 f1) (o : Obj) : IsS93 w0 (W.alloc o) g f0 f1 := h.below (below_alloc (Below.refl _ _) o)
theorem IsS93.drewN {w0 W : World} {g : Nat} {f0 : Int} {f1 : Bool} (h : IsS93 w0 W g f0 f1) (m : Nat) : IsS93 w0 (W.drewN m) g f0 f1 := h
theorem IsS93.drew {w0 W : World} {g : Nat} {f0 : Int} {f1 : Bool} (h : IsS93 w0 W g f0 f1) : IsS93 w0 W.drew g f0 f1 := h
theorem IsS93.at_ {w0 W : World} {g : Nat} {f0 : Int} {f1 : Bool} {w' : World} {m : Nat} (hq : W.drewN m = w') (h : IsS93 w0 W g f0 f1) : IsS93 w0 w' g f0 f1 := by subst hq; exact IsS93.drewN h m
theorem IsS93.apart {w0 W : World} {g : Nat} {f0 : Int} {f1 : Bool} {α : Type} {d : Kd α} {e : Nat} {base : Nat} {ok : Nat → Prop} {v : Value} {xs : List α} (h : IsS93 w0 W g f0 f1) (ho : d.R e W base ok v xs) (ht : ∀ q, q ∈ e :: d.E → q ≠ 93) : d.R e W base (fun k => ok k ∧ k ≠ g) v xs := by
 obtain ⟨hb, hg⟩ := h
 exact Kd.R_types ho hb ht
theorem IsS93.own_ne {w0 W : World} {g : Nat} {f0 : Int} {f1 : Bool} {α : Type} {d : Kd α} {e : Nat} {base : Nat} {ok : Nat → Prop} {v : Value} {xs : List α} (h : IsS93 w0 W g f0 f1) (ho : d.R e W base ok v xs) (ht : e ≠ 93) : some g ≠ v.ownBlock := by
 obtain ⟨hb, hg⟩ := h
 exact Kd.R_ne ho hb ht
theorem IsS93.ge {w0 W : World} {g : Nat} {f0 : Int} {f1 : Bool} (h : IsS93 w0 W g f0 f1) : w0.heap.size ≤ g := by
 obtain ⟨hb, hg⟩ := h
 exact hg
theorem IsS93.far {w0 W : World} {g : Nat} {f0 : Int} {f1 : Bool} {p : Addr} (h : IsS93 w0 W g f0 f1) (hne : g ≠ p.block) (u : Value) : IsS93 w0 (W.setCell p u) g f0 f1 := by
 obtain ⟨hb, hg⟩ := h
 exact ⟨blk_far hb hne u, hg⟩
theorem cellS93_0 {W : World} {g : Nat} {f0 : Int} {f1 : Bool} (h : W.heap[g]? = some (.cells #[.int .i64 f0, .bool f1] 93 (0, 0))) : W.cell? ⟨g, 0, none⟩ = some (.int .i64 f0) := (blk_cell h 0).trans rfl
theorem IsS93.set_0 {w0 W : World} {g : Nat} {f0 : Int} {f1 : Bool} (h : IsS93 w0 W g f0 f1) (x : Int) : IsS93 w0 (W.setCell ⟨g, 0, none⟩ (.int .i64 x)) g x f1 := by
 obtain ⟨hb, hg⟩ := h
 exact ⟨by simpa using blk_set hb 0 (.int .i64 x), hg⟩
theorem cellS93_1 {W : World} {g : Nat} {f0 : Int} {f1 : Bool} (h : W.heap[g]? = some (.cells #[.int .i64 f0, .bool f1] 93 (0, 0))) : W.cell? ⟨g, 1, none⟩ = some (.bool f1) := (blk_cell h 1).trans rfl
theorem IsS93.set_1 {w0 W : World} {g : Nat} {f0 : Int} {f1 : Bool} (h : IsS93 w0 W g f0 f1) (x : Bool) : IsS93 w0 (W.setCell ⟨g, 1, none⟩ (.bool x)) g f0 x := by
 obtain ⟨hb, hg⟩ := h
 exact ⟨by simpa using blk_set hb 1 (.bool x), hg⟩
theorem IsS93.new (w0 W : World) (f0 : Int) (f1 : Bool) (hB : Below w0.heap.size w0 W) : IsS93 w0 (W.alloc (.cells #[.int .i64 f0, .bool f1] 93)) W.heap.size f0 f1 := ⟨by simpa using heap_alloc_new W _, hB.size⟩
def hunks_side_add.f (s0_0 : Int) (s0_1 : Bool) (a1 : ByteArray) : Option (Bool × Int × Bool) := if s0_1 = true then (some (false, s0_0, s0_1)) else ((lines_Whole.f a1).bind fun t243 => (some (true, wrap64 (s0_0 + 1), !t243)))
set_option maxHeartbeats 8000000 in
set_option maxRecDepth 100000 in
theorem hunks_side_add.calls (g : Nat) (s0_0 : Int) (s0_1 : Bool) (a1 : ByteArray) (r1 : Bool) (r2 : Int) (r3 : Bool) (w0 w : World) (hI : IsS93 w0 w g s0_0 s0_1) (hB : Below w0.heap.size w0 w) (h : hunks_side_add.f s0_0 s0_1 a1 = some (r1, r2, r3)) :
  Calls Try.prog 66 #[.pointer (some ⟨g, 0, none⟩), .string a1] w fun e w' => e = .returned (.bool r1) ∧ IsS93 w0 w' g r2 r3 ∧ Below w0.heap.size w0 w' ∧ KeepBut w w' g none := by
 have HI0 := Aside0.mk hI
 have HK := Aside0.mk (KeepBut.refl w g none)
 have HL := Aside0.mk hB.size
 clear hI
 have HW0 := Aside0.mk hB.size
 have HB := Aside0.mk hB
 clear hB
 have H := h
 clear h
 unfold hunks_side_add.f at H
 replace H := itB H
 rcases H with ⟨rfl, H⟩ | ⟨rfl, H⟩
 ·simp only [Option.some.injEq, Prod.mk.injEq] at H
  obtain ⟨rfl, rfl, rfl⟩ := H
  obtain ⟨HGz4, hgz4⟩ := HI0.out
  have hcz4_0 := cellS93_0 HGz4
  have hcz4_1 := cellS93_1 HGz4
  have hfz4_0 := blk_frozen HGz4 0
  have hfz4_1 := blk_frozen HGz4 1
  clear HGz4 hgz4
  go_enter Try.func66, Try.ntmps66
  go_wp2
  go_ret
  exact ⟨eqEnd, by repeat (first | (with_reducible first | exact HI0.out | apply IsS93.alloc | apply IsS93.drewN | apply IsS93.drew | apply IsS93.set_0 | apply IsS93.set_1) | exact HI0.out), by repeat (first | (with_reducible first | exact HB.out | apply below_alloc | apply pw_below_drewN | apply below_drew1 | refine below_set ?_ (IsS93.ge HI0.out)) | exact HB.out), by repeat (first | (with_reducible first | exact HK.out | apply KeepBut.set_ | apply keep_drewN | apply keep_drew | apply keep_alloc) | exact HK.out)⟩
 replace H := bdS H
 obtain ⟨t243, A5, H⟩ := H
 simp only [Option.some.injEq, Prod.mk.injEq] at H
 obtain ⟨rfl, rfl, rfl⟩ := H
 obtain ⟨HGz6, hgz6⟩ := HI0.out
 have hcz6_0 := cellS93_0 HGz6
 have hcz6_1 := cellS93_1 HGz6
 have hfz6_0 := blk_frozen HGz6 0
 have hfz6_1 := blk_frozen HGz6 1
 clear HGz6 hgz6
 go_enter Try.func66, Try.ntmps66
 go_wp2_with (first | ((with_reducible refine gate_callee (f := 76) rfl ?_); refine goL (some 18) Try.func76 #[.string a1] ?_; (with_reducible refine (lines_Whole.calls a1 t243 _ A5.out).mono ?_); rintro e w' ⟨rfl, ⟨nd, rfl⟩⟩; refine ⟨_, rfl, ?_⟩))
 go_ret
 exact ⟨eqEnd, by repeat (first | (with_reducible first | exact HI0.out | apply IsS93.alloc | apply IsS93.drewN | apply IsS93.drew | apply IsS93.set_0 | apply IsS93.set_1) | exact HI0.out), by repeat (first | (with_reducible first | exact HB.out | apply below_alloc | apply pw_below_drewN | apply below_drew1 | refine below_set ?_ (IsS93.ge HI0.out)) | exact HB.out), by repeat (first | (with_reducible first | exact HK.out | apply KeepBut.set_ | apply keep_drewN | apply keep_drew | apply keep_alloc) | exact HK.out)⟩
end Go.Proofs.Ytkoagpnoaibdjaa.Pp
