/-
  selvage/journal.Encode writes a plan's steps into a builder of its own: walked over this translation.
-/
import Derived.Test.YtfempodohmhhlaaDoorEQuote
import Derived.Test.YtfempodohmhhlaaDoorPp2
namespace Go.Proofs.YtfempodohmhhlaaDoor.Ext
open Go.RowKit Go.Proofs.YtfempodohmhhlaaDoorW.PrintWords Go.Proofs.YtfempodohmhhlaaDoorW.PrintLast Go.Proofs.YtfempodohmhhlaaDoor.Pp
def encHead : ByteArray := ⟨#[115, 101, 108, 118, 97, 103, 101, 32, 106, 111, 117, 114, 110, 97, 108, 32, 49, 10]⟩
def encTail : ByteArray := ⟨#[101, 110, 100, 10]⟩
def encLine (k : Nat) (s : S32) : Option (ByteArray × ByteArray) :=
  (journal_word.f s.f0).bind fun wd => (quote_Quote.f k s.f1).bind fun q =>
    if wd.size + q.size ≤ 35184372088832 then
      (if s.f0 = 1 then (quote_Quote.f k s.f2).bind fun q2 => if q2.size ≤ 35184372088832 then some (wd ++ q, (⟨#[9]⟩ : ByteArray) ++ q2) else none else some (wd ++ q, ⟨#[]⟩))
    else none
def encFrom (k : Nat) : List S32 → ByteArray → Option (ByteArray × Option Int)
  | [], acc => if acc.size ≤ 35184372088832 then some (acc ++ encTail, none) else none
  | s :: l, acc => (journal_Valid.f k s.f0 s.f1 s.f2).bind fun e =>
    if e.isNone = true then (encLine k s).bind fun x => (if acc.size ≤ 35184372088832 then encFrom k l (acc ++ x.1 ++ x.2 ++ (⟨#[10]⟩ : ByteArray)) else none)
    else some (⟨#[]⟩, e)
def journal_Encode.f (k : Nat) (l0 : List S32) : Option (ByteArray × Option Int) := if l0.length ≤ 35184372088832 then encFrom k l0 encHead else none
theorem encLine_mono (s : S32) (k : Nat) : LeO (encLine k s) (encLine (k + 1) s) := by
  unfold encLine
  refine LeO.bind (LeO.refl _) fun wd => LeO.bind (quote_Quote.mono _ _) fun q => LeO.ite (LeO.ite (LeO.bind (quote_Quote.mono _ _) fun q2 => LeO.refl _) (LeO.refl _)) (LeO.refl _)
theorem encFrom_mono (k : Nat) : ∀ (l : List S32) (acc : ByteArray), LeO (encFrom k l acc) (encFrom (k + 1) l acc)
  | [], acc => LeO.refl _
  | s :: l, acc => by
    unfold encFrom
    exact LeO.bind (journal_Valid.mono _ _ _ _) fun e => LeO.ite (LeO.bind (encLine_mono s k) fun x => LeO.ite (encFrom_mono k l _) (LeO.refl _)) (LeO.refl _)
theorem journal_Encode.mono : ∀ l0 k, LeO (journal_Encode.f k l0) (journal_Encode.f (k + 1) l0) := fun l0 k => LeO.ite (encFrom_mono k l0 _) (LeO.refl _)
theorem strCells_append (a b : ByteArray) : Lib.strCells (a ++ b) = Lib.strCells a ++ Lib.strCells b := by
  unfold Lib.strCells
  rw [ByteArray.data_append, Array.toList_append, List.map_append]
theorem strCells_nil : Lib.strCells (⟨#[]⟩ : ByteArray) = [] := rfl
theorem drop_rd (l : List S32) (i : Nat) (h : i < l.length) : l.drop i = rd_T32 l i :: l.drop (i + 1) := by
  rw [List.drop_eq_getElem_cons h]
  congr 1
  simp [rd_T32, h]
set_option maxHeartbeats 8000000 in
set_option maxRecDepth 100000 in
theorem journal_Encode.calls (k : Nat) (A0 : Option Addr) (c0 : Nat) (l0 : List S32) (r1 : ByteArray) (r2 : Option Int) (w : World)
    (hr0 : Kd.C k32 w A0 l0.length l0) (_hc0 : l0.length ≤ c0) (hGL : Glob w) (h : journal_Encode.f k l0 = some (r1, r2)) :
    Calls Tryd.prog 7 #[.slice A0 l0.length c0] w fun e w' => e = .returned (.tuple #[.string r1, errW r2]) ∧ Below w.heap.size w w' := by
  unfold journal_Encode.f at h
  by_cases hlen : l0.length ≤ 35184372088832
  case neg => rw [if_neg hlen] at h; cases h
  rw [if_pos hlen] at h
  have H := Aside0.mk h
  clear h
  have HR := Aside0.mk hr0
  have HG := Aside0.mk hGL
  clear hr0 hGL
  have hB0 := Aside0.mk (Lib.fresh_isBuilder 46 5 w)
  go_enter Tryd.func7, Tryd.ntmps7
  go_wp2_with (fail)
  refine (writeString w.heap.size w.heap.size [] encHead _ (by simpa using hB0.out) (by simp [encHead, ByteArray.size]) (by simp)).mono ?_
  rintro e w1 ⟨rfl, hb1, hw1⟩
  have hb := Aside0.mk hb1
  have HB : Aside0 (Below w.heap.size w w1) := ⟨(below_alloc (Below.refl _ _) _).trans hw1⟩
  clear hb1 hw1 hB0
  go_wp2_with (fail)
  go_loopw [11] (fun v wr => ∃ (i : Nat) (acc : ByteArray), v = .int .i64 i ∧ i ≤ l0.length ∧ Aside0 (encFrom k (l0.drop i) acc = some (r1, r2)) ∧ Aside0 (BAt w.heap.size w.heap.size (.pointer (some ⟨w.heap.size, 0, none⟩)) (Lib.strCells acc) wr) ∧ Aside0 (Below w.heap.size w wr)) (fun v _ => l0.length - (intOf v).toNat)
  case atStart => exact ⟨0, encHead, rfl, Nat.zero_le _, ⟨by rw [List.drop_zero]; exact H.out⟩, ⟨by simpa using hb.out⟩, HB⟩
  case round =>
    clear HB hb H
    obtain ⟨i, acc, rfl, hi, H, hb, HB⟩ := hrel
    by_cases hlt : i < l0.length
    · have hC := Kd.C_below HR.out HB.out
      obtain ⟨ad, e0, hx0, hx1, hx2⟩ := at_T32 hC i (by omega) (by omega)
      subst e0
      simp only [Int.toNat_natCast] at hx0 hx1 hx2
      clear hC
      have H1 := H.out
      rw [drop_rd l0 i hlt] at H1
      simp only [encFrom] at H1
      obtain ⟨e, hV, H1⟩ := Option.bind_eq_some_iff.mp H1
      have HV := Aside0.mk hV
      clear hV H
      cases e with
      | some c =>
        rw [if_neg (by simp)] at H1
        simp only [Option.some.injEq, Prod.mk.injEq] at H1
        obtain ⟨rfl, rfl⟩ := H1
        go_wp2_with (go_at_call 10; (with_reducible refine (journal_Valid.calls k _ _ _ (some c) _ ?hg1 HV.out).mono ?_); (case hg1 => exact HG.out.below (below_alloc HB.out _)); rintro e w2 ⟨rfl, hw2⟩; try simp only [errW_some])
        go_ret2
        exact ⟨rfl, (below_alloc HB.out _).trans (hw2.mono (by have := HB.out.size; simp; omega))⟩
      | none =>
        rw [if_pos (show (none : Option Int).isNone = true from rfl)] at H1
        obtain ⟨⟨x1, x2⟩, hL, H1⟩ := Option.bind_eq_some_iff.mp H1
        unfold encLine at hL
        obtain ⟨wd, hW, hL⟩ := Option.bind_eq_some_iff.mp hL
        obtain ⟨q, hQ, hL⟩ := Option.bind_eq_some_iff.mp hL
        have HW := Aside0.mk hW
        have HQ := Aside0.mk hQ
        clear hW hQ
        by_cases hs1 : wd.size + q.size ≤ 35184372088832
        case neg => rw [if_neg hs1] at hL; cases hL
        rw [if_pos hs1] at hL
        by_cases hs2 : acc.size ≤ 35184372088832
        case neg => rw [if_neg hs2] at H1; cases H1
        rw [if_pos hs2] at H1
        have H := Aside0.mk H1
        have HL := Aside0.mk hL
        clear H1 hL
        go_wp2_with (go_at_call 10; (with_reducible refine (journal_Valid.calls k _ _ _ none _ ?hg2 HV.out).mono ?_); (case hg2 => exact HG.out.below (below_alloc HB.out _)); rintro e w2 ⟨rfl, hw2⟩; try simp only [errW_none])
        have bk2 : Aside0 (w2.heap[wr.heap.size]? = some (.cells #[.int .i64 (rd_T32 l0 ↑i).f0, .string (rd_T32 l0 ↑i).f1, .string (rd_T32 l0 ↑i).f2] 32 (0, 0))) := ⟨(hw2.block wr.heap.size (by simp)).trans (by simpa using heap_alloc_new wr _)⟩
        have hlt2 : wr.heap.size < w2.heap.size := by have := hw2.size; simp at this; omega
        have k0 : w2.cell? ⟨wr.heap.size, 0, none⟩ = some (.int .i64 (rd_T32 l0 ↑i).f0) := (blk_cell bk2.out 0).trans rfl
        have k1 : w2.cell? ⟨wr.heap.size, 1, none⟩ = some (.string (rd_T32 l0 ↑i).f1) := (blk_cell bk2.out 1).trans rfl
        have hb2 : Aside0 (BAt w.heap.size w.heap.size (.pointer (some ⟨w.heap.size, 0, none⟩)) (Lib.strCells acc) w2) := ⟨BAt_below (BAt_alloc hb.out _) hw2⟩
        have HB2 : Aside0 (Below w.heap.size w w2) := ⟨(below_alloc HB.out _).trans (hw2.mono (by have := HB.out.size; simp; omega))⟩
        clear hw2 hb HB hx0 hx1 hx2 HV
        have hno : ¬ 9223372036854775807 < wd.size + q.size := by omega
        have hcs : (Lib.strCells acc).length + (wd ++ q).size ≤ 140737488355328 := by rw [Lib.strCells_length, ByteArray.size_append]; omega
        go_region_held3 (fun w' => w'.cell? ⟨wr.heap.size, 0, none⟩ = some (.int .i64 (rd_T32 l0 ↑i).f0) ∧ w'.cell? ⟨wr.heap.size, 1, none⟩ = some (.string (rd_T32 l0 ↑i).f1)) (go_keep) (first
          | (go_at_call 17; (with_reducible refine (journal_word.calls _ wd _ HW.out).mono ?_); rintro e w3 ⟨rfl, ⟨nd, rfl⟩⟩)
          | (go_at_call 18; (with_reducible refine (quote_Quote.calls k _ q _ HQ.out).mono ?_); rintro e w3 ⟨rfl, hq⟩; have bk3 := Aside0.mk ((hq.block wr.heap.size (Nat.lt_of_lt_of_le hlt2 (by first | exact Nat.le_refl _ | exact (pw_below_drewN (Below.refl w2.heap.size w2) _).size))).trans (by first | exact bk2.out | exact ((pw_below_drewN (Below.refl w2.heap.size w2) _).block wr.heap.size hlt2).trans bk2.out)); have k03 : w3.cell? ⟨wr.heap.size, 0, none⟩ = some (.int .i64 (rd_T32 l0 ↑i).f0) := (blk_cell bk3.out 0).trans rfl; have k13 : w3.cell? ⟨wr.heap.size, 1, none⟩ = some (.string (rd_T32 l0 ↑i).f1) := (blk_cell bk3.out 1).trans rfl; have hb3 : Aside0 (BAt w.heap.size w.heap.size (.pointer (some ⟨w.heap.size, 0, none⟩)) (Lib.strCells acc) w3) := ⟨BAt_below (by first | exact hb2.out | exact BAt_drewN hb2.out _) hq⟩; have hi3 : Aside0 (IsB w.heap.size w.heap.size (Lib.strCells acc) w3) := ⟨Or.inr hb3.out⟩; have HB3 : Aside0 (Below w.heap.size w w3) := ⟨by first | exact HB2.out.trans (hq.mono HB2.out.size) | exact (pw_below_drewN HB2.out _).trans (hq.mono (pw_below_drewN HB2.out _).size)⟩; clear hq)
          | (go_at_call 16; (with_reducible refine (writeStringK w.heap.size w.heap.size (Lib.strCells acc) (wd ++ q) _ (by first | exact hi3.out | exact IsB_drewN hi3.out _) hcs (by first | exact HB3.out.size | exact (pw_below_drewN HB3.out _).size)).mono ?_); rintro e w4 ⟨rfl, hb4, hw4, hk4⟩; have bk4 := Aside0.mk (hk4 wr.heap.size _ _ _ (by first | exact bk3.out | exact ((pw_below_drewN (Below.refl w3.heap.size w3) _).block wr.heap.size (blk_lt bk3.out)).trans bk3.out) (by decide) (by decide)); have k04 : w4.cell? ⟨wr.heap.size, 0, none⟩ = some (.int .i64 (rd_T32 l0 ↑i).f0) := (blk_cell bk4.out 0).trans rfl; have k14 : w4.cell? ⟨wr.heap.size, 1, none⟩ = some (.string (rd_T32 l0 ↑i).f1) := (blk_cell bk4.out 1).trans rfl; have k24 : w4.cell? ⟨wr.heap.size, 2, none⟩ = some (.string (rd_T32 l0 ↑i).f2) := (blk_cell bk4.out 2).trans rfl; have hb5 := Aside0.mk hb4; have HB4 : Aside0 (Below w.heap.size w w4) := ⟨by first | exact HB3.out.trans hw4 | exact (pw_below_drewN HB3.out _).trans hw4⟩; clear hb4 hw4 hk4 hb3 HB3 hi3))
        by_cases hf : (rd_T32 l0 ↑i).f0 = 1
        · have HL' := HL.out
          rw [if_pos hf] at HL'
          obtain ⟨q2, hQ2, HL'⟩ := Option.bind_eq_some_iff.mp HL'
          have HQ2 := Aside0.mk hQ2
          clear hQ2 HL
          by_cases hs3 : q2.size ≤ 35184372088832
          case neg => rw [if_neg hs3] at HL'; cases HL'
          rw [if_pos hs3] at HL'
          simp only [Option.some.injEq, Prod.mk.injEq] at HL'
          obtain ⟨rfl, rfl⟩ := HL'
          have hfb : ((rd_T32 l0 ↑i).f0 == 1) = true := beq_iff_eq.mpr hf
          clear hf
          have hno3 : ¬ 9223372036854775807 < (⟨#[9]⟩ : ByteArray).size + q2.size := by rw [show (⟨#[9]⟩ : ByteArray).size = 1 from rfl]; omega
          have hsz1 : wd.size + q.size ≤ 35184372088832 := hs1
          go_wp2_with (go_at_call 18; (with_reducible refine (quote_Quote.calls k _ q2 _ HQ2.out).mono ?_); rintro e w5 ⟨rfl, hq⟩; have hb6 : Aside0 (IsB w.heap.size w.heap.size (Lib.strCells (acc ++ (wd ++ q))) w5) := ⟨Or.inr (BAt_below (by rw [strCells_append]; exact hb5.out) hq)⟩; have HB6 : Aside0 (Below w.heap.size w w5) := ⟨HB4.out.trans (hq.mono HB4.out.size)⟩; clear hq)
          refine (writeString w.heap.size w.heap.size (Lib.strCells (acc ++ (wd ++ q))) ((⟨#[9]⟩ : ByteArray) ++ q2) _ (by exact hb6.out) (by rw [Lib.strCells_length, ByteArray.size_append, ByteArray.size_append, ByteArray.size_append, show (⟨#[9]⟩ : ByteArray).size = 1 from rfl]; omega) (by exact HB6.out.size)).mono ?_
          rintro e w6 ⟨rfl, hb7, hw7⟩
          have hb8 := Aside0.mk hb7
          have HB8 : Aside0 (Below w.heap.size w w6) := ⟨HB6.out.trans hw7⟩
          clear hb7 hw7
          go_wp2_with (fail)
          refine (writeString w.heap.size w.heap.size (Lib.strCells (acc ++ (wd ++ q)) ++ Lib.strCells ((⟨#[9]⟩ : ByteArray) ++ q2)) (⟨#[10]⟩ : ByteArray) _ (by exact Or.inr hb8.out) (by rw [List.length_append, Lib.strCells_length, Lib.strCells_length, ByteArray.size_append, ByteArray.size_append, ByteArray.size_append, show (⟨#[9]⟩ : ByteArray).size = 1 from rfl, show (⟨#[10]⟩ : ByteArray).size = 1 from rfl]; omega) (by exact HB8.out.size)).mono ?_
          rintro e w7 ⟨rfl, hb9, hw9⟩
          have hb10 := Aside0.mk hb9
          have HB10 : Aside0 (Below w.heap.size w w7) := ⟨HB8.out.trans hw9⟩
          clear hb9 hw9
          go_wp2_with (fail)
          go_roundw
          case rel => exact ⟨i + 1, _, by go_num, by omega, H, ⟨by rw [strCells_append, strCells_append]; exact hb10.out⟩, HB10⟩
          case measure => simp [intOf]; omega
        · have HL' := HL.out
          rw [if_neg hf] at HL'
          simp only [Option.some.injEq, Prod.mk.injEq] at HL'
          obtain ⟨rfl, rfl⟩ := HL'
          have hfb : ((rd_T32 l0 ↑i).f0 == 1) = false := beq_eq_false_iff_ne.mpr hf
          clear hf HL
          go_wp2_with (fail)
          refine (writeString w.heap.size w.heap.size (Lib.strCells acc ++ Lib.strCells (wd ++ q)) (⟨#[10]⟩ : ByteArray) _ (by exact Or.inr hb5.out) (by rw [List.length_append, Lib.strCells_length, Lib.strCells_length, ByteArray.size_append, show (⟨#[10]⟩ : ByteArray).size = 1 from rfl]; omega) (by exact HB4.out.size)).mono ?_
          rintro e w7 ⟨rfl, hb9, hw9⟩
          have hb10 := Aside0.mk hb9
          have HB10 : Aside0 (Below w.heap.size w w7) := ⟨HB4.out.trans hw9⟩
          clear hb9 hw9
          go_wp2_with (fail)
          go_roundw
          case rel => exact ⟨i + 1, _, by go_num, by omega, H, ⟨by rw [strCells_append, strCells_append, strCells_append acc, strCells_nil, List.append_nil]; exact hb10.out⟩, HB10⟩
          case measure => simp [intOf]; omega
    · have hdrop : l0.drop i = [] := List.drop_of_length_le (by omega)
      have H1 := H.out
      rw [hdrop] at H1
      simp only [encFrom] at H1
      by_cases hs2 : acc.size ≤ 35184372088832
      case neg => rw [if_neg hs2] at H1; cases H1
      rw [if_pos hs2] at H1
      simp only [Option.some.injEq, Prod.mk.injEq] at H1
      obtain ⟨rfl, rfl⟩ := H1
      clear hdrop H
      go_wp2_with (fail)
      refine (writeString w.heap.size w.heap.size (Lib.strCells acc) encTail _ (by exact Or.inr hb.out) (by rw [Lib.strCells_length, show encTail.size = 4 from rfl]; omega) (by exact HB.out.size)).mono ?_
      rintro e w1 ⟨rfl, hb1, hw1⟩
      have hb' := Aside0.mk hb1
      have HB' : Aside0 (Below w.heap.size w w1) := ⟨HB.out.trans hw1⟩
      clear hb1 hw1 hb HB
      go_wp2_with (fail)
      refine (Tryd.Builder_String_any w.heap.size w.heap.size (acc ++ encTail).data.toList _ (by exact Or.inr (by rw [← Lib.strCells_eq, strCells_append]; exact hb'.out)) (by exact HB'.out.size)).mono ?_
      rintro e w2 ⟨rfl, hw1⟩
      have HB : Aside0 (Below w.heap.size w w2) := ⟨HB'.out.trans hw1⟩
      clear hw1 hb' HB'
      go_wp2_with (fail)
      go_ret2
      have e3 : (⟨(acc.data.toList ++ encTail.data.toList).toArray⟩ : ByteArray) = acc ++ encTail := by
        rw [← Array.toList_append, ← ByteArray.data_append]
      refine ⟨?_, HB.out⟩
      show Ending.returned (Value.tuple #[Value.string ⟨(acc.data.toList ++ encTail.data.toList).toArray⟩, Value.nilIface]) = _
      rw [e3]; rfl
end Go.Proofs.YtfempodohmhhlaaDoor.Ext
