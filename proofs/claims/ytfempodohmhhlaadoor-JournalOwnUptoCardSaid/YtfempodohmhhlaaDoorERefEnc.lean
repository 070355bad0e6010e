/-
  selvage/selvageref27.Encode gathers the lines of a plan's steps behind a constant's bytes: walked over this translation.
-/
import Derived.Test.YtfempodohmhhlaaDoorEBytes
import Derived.Test.YtfempodohmhhlaaDoorPp4
import Derived.Test.YtfempodohmhhlaaDoorPp5
namespace Go.Proofs.YtfempodohmhhlaaDoor.Ext
open Go.RowKit Go.Proofs.YtfempodohmhhlaaDoorW.PrintWords Go.Proofs.YtfempodohmhhlaaDoorW.PrintLast Go.Proofs.YtfempodohmhhlaaDoor.Pp
def refHead : ByteArray := ⟨#[115, 101, 108, 118, 97, 103, 101, 32, 106, 111, 117, 114, 110, 97, 108, 32, 49, 10]⟩
def refTail : ByteArray := ⟨#[101, 110, 100, 10]⟩
def refEncFrom (k : Nat) : List S32 → ByteArray → Option (ByteArray × Int)
  | [], acc => if acc.size ≤ 35184372088832 then some (acc ++ refTail, 0) else none
  | s :: l, acc => (selvageref27_Valid.f k s.f0 s.f1 s.f2).bind fun e =>
    if e = 0 then (selvageref27_line.f k s.f0 s.f1 s.f2).bind fun x => (if acc.size ≤ 35184372088832 ∧ 1 ≤ x.size ∧ x.size ≤ 35184372088832 then refEncFrom k l (acc ++ x) else none)
    else some (⟨#[]⟩, 1)
def selvageref27_Encode.f (k : Nat) (l0 : List S32) : Option (ByteArray × Int) := if l0.length ≤ 35184372088832 then refEncFrom k l0 refHead else none
theorem refEncFrom_mono (k : Nat) : ∀ (l : List S32) (acc : ByteArray), LeO (refEncFrom k l acc) (refEncFrom (k + 1) l acc)
  | [], acc => LeO.refl _
  | s :: l, acc => by
    unfold refEncFrom
    exact LeO.bind (selvageref27_Valid.mono _ _ _ _) fun e => LeO.ite (LeO.bind (selvageref27_line.mono _ _ _ _) fun x => LeO.ite (refEncFrom_mono k l _) (LeO.refl _)) (LeO.refl _)
theorem selvageref27_Encode.mono : ∀ l0 k, LeO (selvageref27_Encode.f k l0) (selvageref27_Encode.f (k + 1) l0) := fun l0 k => LeO.ite (refEncFrom_mono k l0 _) (LeO.refl _)
theorem refdrop_rd (l : List S32) (i : Nat) (h : i < l.length) : l.drop i = rd_T32 l i :: l.drop (i + 1) := by
  rw [List.drop_eq_getElem_cons h]
  congr 1
  simp [rd_T32, h]
set_option maxHeartbeats 8000000 in
set_option maxRecDepth 100000 in
theorem selvageref27_Encode.calls (k : Nat) (A0 : Option Addr) (c0 : Nat) (l0 : List S32) (r1 : ByteArray) (r2 : Int) (w : World)
    (hr0 : Kd.C k32 w A0 l0.length l0) (_hc0 : l0.length ≤ c0) (h : selvageref27_Encode.f k l0 = some (r1, r2)) :
    Calls Tryd.prog 8 #[.slice A0 l0.length c0] w fun e w' => e = .returned (.tuple #[.string r1, .int .i64 r2]) ∧ Below w.heap.size w w' := by
  unfold selvageref27_Encode.f at h
  by_cases hlen : l0.length ≤ 35184372088832
  case neg => rw [if_neg hlen] at h; cases h
  rw [if_pos hlen] at h
  have H := Aside0.mk h
  clear h
  have HR := Aside0.mk hr0
  clear hr0
  have kc := fun (w : World) (C : Array Value) (n c : Nat) => Lib.run_convert_bytes_const (P := Tryd.prog) w 44 5 C n c Tryd.underlying44 Tryd.underlying5
  go_enter Tryd.func8, Tryd.ntmps8
  go_wp2_with (fail)
  clear kc
  have hrow0 : ∀ W : World, BRow W.heap.size (.slice (some ⟨W.heap.size, 0, none⟩) 18 18) refHead (W.alloc (.cells #[.int .u8 115, .int .u8 101, .int .u8 108, .int .u8 118, .int .u8 97, .int .u8 103, .int .u8 101, .int .u8 32, .int .u8 106, .int .u8 111, .int .u8 117, .int .u8 114, .int .u8 110, .int .u8 97, .int .u8 108, .int .u8 32, .int .u8 49, .int .u8 10] 5 (18, 19))) := fun W =>
    .inr ⟨W.heap.size, Nat.le_refl _, rfl, _, _, heap_alloc_new W _, rfl⟩
  go_loopw [4, 5] (fun v4 v wr => ∃ (i : Nat) (acc : ByteArray), v = .int .i64 i ∧ i ≤ l0.length ∧ Aside0 (refEncFrom k (l0.drop i) acc = some (r1, r2)) ∧ Aside0 (BRow w.heap.size v4 acc wr) ∧ Aside0 (Below w.heap.size w wr)) (fun _ v _ => l0.length - (intOf v).toNat)
  case atStart => exact ⟨0, refHead, rfl, Nat.zero_le _, ⟨by rw [List.drop_zero]; exact H.out⟩, ⟨hrow0 w⟩, ⟨below_alloc (Below.refl _ _) _⟩⟩
  case round =>
    clear H hrow0
    obtain ⟨i, acc, rfl, hi, H, hb, HB⟩ := hrel
    by_cases hlt : i < l0.length
    · have hC := Kd.C_below HR.out HB.out
      obtain ⟨ad, e0, hx0, hx1, hx2⟩ := at_T32 hC i (by omega) (by omega)
      subst e0
      simp only [Int.toNat_natCast] at hx0 hx1 hx2
      clear hC
      have H1 := H.out
      rw [refdrop_rd l0 i hlt] at H1
      simp only [refEncFrom] at H1
      obtain ⟨e, hV, H1⟩ := Option.bind_eq_some_iff.mp H1
      have HV := Aside0.mk hV
      clear hV H
      by_cases he : e = 0
      · subst he
        rw [if_pos rfl] at H1
        obtain ⟨x, hL, H1⟩ := Option.bind_eq_some_iff.mp H1
        by_cases hs2 : acc.size ≤ 35184372088832 ∧ 1 ≤ x.size ∧ x.size ≤ 35184372088832
        case neg => rw [if_neg hs2] at H1; cases H1
        rw [if_pos hs2] at H1
        obtain ⟨hs2, hs3, hs4⟩ := hs2
        have H := Aside0.mk H1
        have HL := Aside0.mk hL
        clear H1 hL
        go_wp2_with (go_at_call 11; (with_reducible refine (selvageref27_Valid.calls k _ _ _ 0 _ HV.out).mono ?_); rintro e w2 ⟨rfl, hw2⟩; have HB2 : Aside0 (Below w.heap.size w w2) := ⟨HB.out.trans (hw2.mono HB.out.size)⟩; have hb2 := Aside0.mk (hb.out.below hw2); have hC2 := Kd.C_below HR.out HB2.out; obtain ⟨ad2, e0, hy0, hy1, hy2⟩ := at_T32 hC2 i (by omega) (by omega); obtain rfl : ad = ad2 := (by injection e0); simp only [Int.toNat_natCast] at hy0 hy1 hy2; clear hw2 hC2 hx0 hx1 hx2)
        go_wp2_with (first
          | (go_at_call 20; (with_reducible refine (selvageref27_line.calls k _ _ _ x _ HL.out).mono ?_); rintro e w3 ⟨rfl, hw3⟩; have HB3 : Aside0 (Below w.heap.size w w3) := ⟨HB2.out.trans (hw3.mono HB2.out.size)⟩; have hb3 := Aside0.mk (hb2.out.below hw3); clear hw3 hy0 hy1 hy2)
          | (at_builtin; refine wpList_append_brow rfl _ _ 44 9 rfl Tryd.underlying44 Tryd.underlying9 _ acc rfl hb3.out x rfl HB3.out hs3 (by omega) ?_; intro v5 w5 hb5 HB5; have hb6 := Aside0.mk hb5; have HB6 := Aside0.mk HB5; clear hb5 HB5))
        go_roundw
        case rel => exact ⟨i + 1, _, by go_num, by omega, H, hb6, HB6⟩
        case measure => simp [intOf]; omega
      · rw [if_neg he] at H1
        simp only [Option.some.injEq, Prod.mk.injEq] at H1
        obtain ⟨rfl, rfl⟩ := H1
        have heb : (e != 0) = true := bne_iff_ne.mpr he
        clear he
        go_wp2_with (go_at_call 11; (with_reducible refine (selvageref27_Valid.calls k _ _ _ e _ HV.out).mono ?_); rintro e w2 ⟨rfl, hw2⟩)
        go_ret2
        exact ⟨rfl, HB.out.trans (hw2.mono HB.out.size)⟩
    · have hdrop : l0.drop i = [] := List.drop_of_length_le (by omega)
      have H1 := H.out
      rw [hdrop] at H1
      simp only [refEncFrom] at H1
      by_cases hs2 : acc.size ≤ 35184372088832
      case neg => rw [if_neg hs2] at H1; cases H1
      rw [if_pos hs2] at H1
      simp only [Option.some.injEq, Prod.mk.injEq] at H1
      obtain ⟨rfl, rfl⟩ := H1
      clear hdrop H
      have hcv := fun (hn : acc.size ≤ 9223372036854775807) => brow_string hb.out hn Tryd.underlying44 Tryd.underlying9
      have hcv2 := hcv (by omega)
      clear hcv
      have hno : ¬ 9223372036854775807 < acc.size + 4 := by omega
      go_wp2
      go_ret2
      exact ⟨rfl, HB.out⟩
end Go.Proofs.YtfempodohmhhlaaDoor.Ext
