/-
  selvageref05.Ids: three loops, one within the other, and an array of two rows; walked by hand over the printed contract of selvageref05.Key.
-/
import Derived.Test.YtpfhgaaphaalgaaDoorPp2
import Derived.Test.YtpfhgaaphaalgaaDoorEPure
import Derived.OneCell
import Derived.Deep.QuietTactic
import Derived.BigQuiet
namespace Go.Proofs.YtpfhgaaphaalgaaDoor.Ext
open Go.RowKit Go.Proofs.YtpfhgaaphaalgaaDoor.Pp Go.Proofs.YtpfhgaaphaalgaaDoorW.PrintWords Go.Proofs.YtpfhgaaphaalgaaDoorW.PrintLast Go.Proofs.YtpfhgaaphaalgaaDoorW.PrintMore
theorem dropB (l : List ByteArray) (d : ByteArray) (i : Nat) (h : i < l.length) : l.drop i = l.getD i d :: l.drop (i + 1) := by
  rw [List.getD_eq_getElem?_getD, List.getElem?_eq_getElem h]
  exact List.drop_eq_getElem_cons h
def seekF (q : ByteArray) : List ByteArray → Nat
  | [] => 0
  | x :: t => if x.toList = q.toList then 0 else seekF q t + 1
def numR (k : Nat) (e : Int) : List ByteArray → List ByteArray → List Int → Option (List Int × List ByteArray)
  | [], ks, out => some (out, ks)
  | s :: t, ks, out => (selvageref05_Key.f k s e).bind fun q =>
    if ks.length < 8796093022208 ∧ out.length < 17592186044416 then
      numR k e t (if seekF q ks = ks.length then ks ++ [q] else ks) (out ++ [(seekF q ks : Int)]) else none
theorem numR.mono (k : Nat) (e : Int) : ∀ (l ks : List ByteArray) (out : List Int), LeO (numR k e l ks out) (numR (k + 1) e l ks out)
  | [], _, _ => LeO.refl _
  | _ :: t, _, _ => LeO.bind (selvageref05_Key.mono _ _ _) (fun _ => LeO.ite (numR.mono k e t _ _) (LeO.refl _))
def selvageref05_Ids.f (k : Nat) (l0 l1 : List ByteArray) (a2 : Int) : Option (List Int × List Int × Int) :=
  if a2 < 0 then some ([], [], 1) else if 15 < a2 then some ([], [], 1) else
  if l0.length ≤ 9223372036854775807 ∧ l1.length ≤ 9223372036854775807 then
    (numR k a2 l0 [] []).bind fun x => (numR k a2 l1 x.2 []).bind fun y => some (x.1, y.1, 0) else none
theorem selvageref05_Ids.mono : ∀ a0 a1 a2 k, LeO (selvageref05_Ids.f k a0 a1 a2) (selvageref05_Ids.f (k + 1) a0 a1 a2) := by
  intro a0 a1 a2 k
  unfold selvageref05_Ids.f
  exact LeO.ite (LeO.refl _) (LeO.ite (LeO.refl _) (LeO.ite (LeO.bind (numR.mono _ _ _ _ _) (fun _ => LeO.bind (numR.mono _ _ _ _ _) (fun _ => LeO.refl _))) (LeO.none _)))
structure OutIn (wB : World) (g : Nat) (vk : Value) (kn : List ByteArray) (v0 v1 : Value) (o0 o1 : List Int) (w : World) : Prop where
  below : Below wB.heap.size wB w
  old : wB.heap.size ≤ g
  arr : w.heap[g]? = some (.cells #[v0, v1] 47 (0, 0))
  keys : Kd.R Kd.string 9 w wB.heap.size (fun _ => True) vk kn
  r0 : Kd.R (Kd.int .i64) 3 w wB.heap.size (fun k_ => some k_ ≠ v1.ownBlock) v0 o0
  r1 : Kd.R (Kd.int .i64) 3 w wB.heap.size (fun k_ => some k_ ≠ v0.ownBlock) v1 o1
section
variable {wB : World} {g : Nat} {vk v0 v1 : Value} {kn : List ByteArray} {o0 o1 : List Int} {w w' : World}
theorem OutIn.then (h : OutIn wB g vk kn v0 v1 o0 o1 w) (k : Below w.heap.size w w') : OutIn wB g vk kn v0 v1 o0 o1 w' :=
  ⟨below_step h.below k, h.old, blk_below h.arr k, Kd.R_below h.keys k, Kd.R_below h.r0 k, Kd.R_below h.r1 k⟩
theorem OutIn.key (h : OutIn wB g vk kn v0 v1 o0 o1 w) {vk' : Value} {kn' : List ByteArray} (hb : Below wB.heap.size wB w') (g' : w.grownBy w' vk.ownBlock) (hr : Kd.R Kd.string 9 w' wB.heap.size (fun _ => True) vk' kn') : OutIn wB g vk' kn' v0 v1 o0 o1 w' :=
  ⟨hb, h.old, blk_grown h.arr g' (Kd.R_ne h.keys h.arr (by decide)), hr, Kd.R_over h.r0 h.keys (by decide) g', Kd.R_over h.r1 h.keys (by decide) g'⟩
theorem apartI {w w1 : World} {base : Nat} {u v v1 : Value} {xs : List Int} (h : Kd.R (Kd.int .i64) 3 w base (fun k_ => some k_ ≠ v.ownBlock) u xs) (hg : w.grownBy w1 v.ownBlock) (hat : v1.ownBlock = v.ownBlock ∨ ∃ b, v1.ownBlock = some b ∧ w.heap.size ≤ b) :
    Kd.R (Kd.int .i64) 3 w1 base (fun k_ => some k_ ≠ v1.ownBlock) u xs := by
  have h1 := Kd.R_grown h hg (fun k_ hk_ => hk_)
  refine Kd.R_of_own (h1 := fun _ => rfl) (Kd.own_of_R h1) (fun k_ hk_ => ?_)
  rcases hat with e | ⟨b, e, hb⟩
  · rw [e]; exact h.1 k_ hk_
  · rw [e]; intro x; have := Kd.R_lt h k_ hk_; cases x; omega
theorem OutIn.out0 (h : OutIn wB g vk kn v0 v1 o0 o1 w) {v : Value} {o : List Int} (hb : Below wB.heap.size wB w') (g' : w.grownBy w' v0.ownBlock) (hr : Kd.R (Kd.int .i64) 3 w' wB.heap.size (fun k_ => some k_ ≠ v1.ownBlock) v o) (hat : v.ownBlock = v0.ownBlock ∨ ∃ b, v.ownBlock = some b ∧ w.heap.size ≤ b) :
    OutIn wB g vk kn v v1 o o1 (w'.setCell ⟨g, 0, none⟩ v) := by
  have ha := blk_grown h.arr g' (Kd.R_ne h.r0 h.arr (by decide))
  exact ⟨below_set hb h.old, h.old, blk_put ha 0 v rfl, Kd.R_set (Kd.R_over h.keys h.r0 (by decide) g') ha (by decide) 0 v, Kd.R_set hr ha (by decide) 0 v, Kd.R_set (apartI h.r1 g' hat) ha (by decide) 0 v⟩
theorem OutIn.out1 (h : OutIn wB g vk kn v0 v1 o0 o1 w) {v : Value} {o : List Int} (hb : Below wB.heap.size wB w') (g' : w.grownBy w' v1.ownBlock) (hr : Kd.R (Kd.int .i64) 3 w' wB.heap.size (fun k_ => some k_ ≠ v0.ownBlock) v o) (hat : v.ownBlock = v1.ownBlock ∨ ∃ b, v.ownBlock = some b ∧ w.heap.size ≤ b) :
    OutIn wB g vk kn v0 v o0 o (w'.setCell ⟨g, 1, none⟩ v) := by
  have ha := blk_grown h.arr g' (Kd.R_ne h.r1 h.arr (by decide))
  exact ⟨below_set hb h.old, h.old, blk_put ha 1 v rfl, Kd.R_set (Kd.R_over h.keys h.r1 (by decide) g') ha (by decide) 1 v, Kd.R_set (apartI h.r0 g' hat) ha (by decide) 1 v, Kd.R_set hr ha (by decide) 1 v⟩
end
set_option maxHeartbeats 16000000 in
set_option maxRecDepth 100000 in
theorem selvageref05_Ids.calls (k : Nat) (A0 : Option Addr) (c0 : Nat) (l0 : List ByteArray) (A1 : Option Addr) (c1 : Nat) (l1 : List ByteArray) (a2 : Int) (r1 r2 : List Int) (r3 : Int) (w : World)
    (hr0 : Kd.C Kd.string w A0 l0.length l0) (hc0 : l0.length ≤ c0) (hr1 : Kd.C Kd.string w A1 l1.length l1) (hc1 : l1.length ≤ c1) (h : selvageref05_Ids.f k l0 l1 a2 = some (r1, r2, r3)) :
    Calls Tryd.prog 15 #[.slice A0 l0.length c0, .slice A1 l1.length c1, .int .i64 a2] w fun e w' => ∃ v0_ v1_ : Value, e = .returned (.tuple #[v0_, v1_, .int .i64 r3]) ∧
      Kd.R (Kd.int .i64) 3 w' w.heap.size (fun k_ => some k_ ≠ v1_.ownBlock) v0_ r1 ∧ Kd.R (Kd.int .i64) 3 w' w.heap.size (fun k_ => some k_ ≠ v0_.ownBlock) v1_ r2 ∧ Below w.heap.size w w' := by
  have _ := hc0
  have _ := hc1
  unfold selvageref05_Ids.f at h
  have HR0 := Aside0.mk hr0
  have HR1 := Aside0.mk hr1
  clear hr0 hr1
  by_cases d1 : a2 < 0
  · rw [if_pos d1] at h
    simp only [Option.some.injEq, Prod.mk.injEq] at h
    obtain ⟨rfl, rfl, rfl⟩ := h
    have d1b : decide (a2 < 0) = true := decide_eq_true d1
    clear d1
    go_enter Tryd.func15, Tryd.ntmps15
    go_wp2
    go_ret3
    exact ⟨_, _, rfl, Kd.R_nil _ _ _ _ _, Kd.R_nil _ _ _ _ _, by repeat (first | exact Below.refl _ _ | apply below_alloc)⟩
  · rw [if_neg d1] at h
    have d1b : decide (a2 < 0) = false := decide_eq_false d1
    by_cases d2 : 15 < a2
    · rw [if_pos d2] at h
      simp only [Option.some.injEq, Prod.mk.injEq] at h
      obtain ⟨rfl, rfl, rfl⟩ := h
      have d2b : decide (15 < a2) = true := decide_eq_true d2
      clear d1 d2
      go_enter Tryd.func15, Tryd.ntmps15
      go_wp2
      go_ret3
      exact ⟨_, _, rfl, Kd.R_nil _ _ _ _ _, Kd.R_nil _ _ _ _ _, by repeat (first | exact Below.refl _ _ | apply below_alloc)⟩
    · rw [if_neg d2] at h
      have d2b : decide (15 < a2) = false := decide_eq_false d2
      clear d1 d2
      split at h
      case isFalse => cases h
      rename_i hlen
      obtain ⟨⟨x, kx⟩, hx, h⟩ := Option.bind_eq_some_iff.mp h
      obtain ⟨⟨y, ky⟩, hy, h⟩ := Option.bind_eq_some_iff.mp h
      simp only [Option.some.injEq, Prod.mk.injEq] at h
      obtain ⟨rfl, rfl, rfl⟩ := h
      have HX := Aside0.mk hx
      have HY := Aside0.mk hy
      have HL := Aside0.mk hlen
      clear hx hy hlen
      go_enter Tryd.func15, Tryd.ntmps15
      go_wp2
      go_loopg [9, 11, 12, 13, 14, 15] 3 (fun kq v9 v11 v12 v13 v14 v15 w' => ∃ (s : Nat) (kn : List ByteArray) (o0 o1 : List Int) (v0 v1 : Value), v11 = .int .i64 (s : Int) ∧ Aside0 (s + kq = 3) ∧ Aside0 ((s = 0 ∧ kn = [] ∧ o0 = [] ∧ o1 = []) ∨ (s = 1 ∧ kn = kx ∧ o0 = x ∧ o1 = []) ∨ (s = 2 ∧ kn = ky ∧ o0 = x ∧ o1 = y)) ∧ Aside0 (OutIn w w.heap.size v9 kn v0 v1 o0 o1 w'))
      case atStart => exact ⟨0, [], [], [], .slice none 0 0, .slice none 0 0, rfl, ⟨rfl⟩, ⟨.inl ⟨rfl, rfl, rfl, rfl⟩⟩, ⟨below_alloc (Below.refl _ _) _, Nat.le_refl _, blk_new _ _, Kd.R_nil _ _ _ _ _, Kd.R_nil _ _ _ _ _, Kd.R_nil _ _ _ _ _⟩⟩
      case round =>
        obtain ⟨s, kn, o0, o1, v0, v1, rfl, HK0, HS, HI⟩ := hrel
        rcases HS.out with ⟨rfl, rfl, rfl, rfl⟩ | ⟨rfl, rfl, rfl, rfl⟩ | ⟨rfl, rfl, rfl, rfl⟩
        · clear HS
          go_wp2
          obtain ⟨wo, rfl⟩ : ∃ wo : World, wo = wr := ⟨_, rfl⟩
          obtain ⟨gk0, rfl⟩ : ∃ z : Nat, z = gk := ⟨_, rfl⟩
          go_loopg [9, 13, 14, 15] (l0.length + 1) (fun kq v9 v13 v14 v15 w' => ∃ (i : Nat) (kn : List ByteArray) (o : List Int) (vs : Value), v13 = .int .i64 (i : Int) ∧ Aside0 (i + kq = l0.length + 1 ∧ i ≤ l0.length) ∧ Aside0 (numR k a2 (l0.drop i) kn o = some (x, kx)) ∧ Aside0 (OutIn w w.heap.size v9 kn vs v1 o [] w'))
          case atStart => exact ⟨0, _, [], v0, rfl, ⟨by omega⟩, HX, HI⟩
          case round =>
            clear HI
            obtain ⟨i, kn, o, vs, rfl, HK, H, HI⟩ := hrel
            obtain ⟨A9, c9, rfl⟩ := own_slice (Kd.own_of_R HI.out.keys)
            by_cases hi : i < l0.length
            · have p1 : 0 ≤ (i : Int) := by omega
              have q1 : (i : Int) < (l0.length : Int) := by omega
              have H1 := H.out
              rw [dropB l0 ByteArray.empty i hi] at H1
              simp only [numR] at H1
              obtain ⟨q, hq, hn⟩ := Option.bind_eq_some_iff.mp H1
              split at hn
              case isFalse => cases hn
              rename_i hlim
              rw [← Pure.rd_nat] at hq
              have HQ := Aside0.mk hq
              have HLIM := Aside0.mk hlim
              have HNX := Aside0.mk hn
              clear hn H1 H hq hlim
              obtain ⟨ad, e1, hx0⟩ := Kd.at_string (Kd.C_below HR0.out HI.out.below) (i : Int) p1 q1
              cases e1
              simp only [Int.toNat_natCast] at hx0
              have HW1 : Aside0 (wrap64 ((i : Int) + 1) = ((i + 1 : Nat) : Int)) := ⟨by rw [Pure.w64' (by omega) (by have := HL.out; omega)]; omega⟩
              have z1 : decide ((i : Int) < (l0.length : Int)) = true := decide_eq_true q1
              have z2 : decide (i < l0.length) = true := decide_eq_true hi
              go_wp2_with (go_at_call 9; (with_reducible refine (selvageref05_Key.calls k (rdOf ByteArray.empty l0 (i : Int)) a2 q _ HQ.out).mono ?_); rintro x w1 ⟨rfl, hb⟩; have HI1 := Aside0.mk (HI.out.then hb); clear HI hb)
              clear hx0
              obtain ⟨gk2, rfl⟩ : ∃ z : Nat, z = gk := ⟨_, rfl⟩
              obtain ⟨wp, rfl⟩ : ∃ wp : World, wp = wr := ⟨_, rfl⟩
              go_loopg [15] (kn.length + 1) (fun kq v15 w' => ∃ (a : Nat), v15 = .int .i64 (a : Int) ∧ Aside0 (a + kq = kn.length + 1 ∧ a ≤ kn.length) ∧ Aside0 (a + seekF q (kn.drop a) = seekF q kn) ∧ Aside0 (OutIn w w.heap.size (.slice A9 kn.length c9) kn vs v1 o [] w'))
              case atStart => exact ⟨0, rfl, ⟨by omega⟩, ⟨by rw [List.drop_zero]; omega⟩, HI1⟩
              case round =>
                clear HI1
                obtain ⟨a, rfl, HK3, HS3, HI⟩ := hrel
                have HRK := (Kd.R_reads' HI.out.keys).2.2
                by_cases ha : a < kn.length
                · have p3 : 0 ≤ (a : Int) := by omega
                  have q3 : (a : Int) < (kn.length : Int) := by omega
                  obtain ⟨ae, e1, hx0⟩ := Kd.at_string HRK (a : Int) p3 q3
                  cases e1
                  simp only [Int.toNat_natCast] at hx0
                  have z3 : decide ((a : Int) < (kn.length : Int)) = true := decide_eq_true q3
                  have z4 : decide (a < kn.length) = true := decide_eq_true ha
                  have hdr := dropB kn ByteArray.empty a ha
                  by_cases he : (rdOf ByteArray.empty kn (a : Int)).toList = q.toList
                  · have z5 : ((rdOf ByteArray.empty kn (a : Int)).toList != q.toList) = false := bne_eq_false_iff_eq.mpr he
                    have z6 : ((rdOf ByteArray.empty kn (a : Int)).toList == q.toList) = true := beq_iff_eq.mpr he
                    have hsk : seekF q kn = a := by
                      have := HS3.out
                      rw [hdr, ← Pure.rd_nat] at this
                      simp only [seekF] at this
                      rw [if_pos he] at this
                      omega
                    have HSK := Aside0.mk hsk
                    clear hdr hsk he
                    have z7 : ((a : Int) == (kn.length : Int)) = false := beq_eq_false_iff_ne.mpr (by omega)
                    have z8 : (a == kn.length) = false := beq_eq_false_iff_ne.mpr (by omega)
                    have b2 := (blk_cell HI.out.arr 0).trans rfl
                    go_wp2_with (first | ((with_reducible refine gate_builtin (b := .append) (xs := #[.tmp 67, .tmp 69]) rfl ?_); at_builtin; refine Kd.R_append (Kd.int .i64) (w0 := w) w.heap.size rfl (.tmp 67) (.tmp 69) 27 3 (.int .i64 0) 8 rfl Tryd.underlying27 info3 rfl (by decide) (by omega) vs o (a : Int) [.int .i64 (a : Int)] (fun k_ => some k_ ≠ v1.ownBlock) (fun _ => False) rfl rfl ?aP (fun _ hk => hk.elim) ?aF ?aO ?aB ?aS ?aL ?_; (case aP => exact rfl); (case aB => exact HI.out.below); (case aF => exact (fun k_ hk_ hx_ => by have := Kd.R_lt HI.out.r1 k_ hx_.symm; omega)); (case aO => exact HI.out.r0); (case aS => exact HI.out.below.size); (case aL => have := HLIM.out; omega); intro v2 w3 ho hb hg hat; obtain ⟨A2, c2, rfl⟩ := own_slice (Kd.own_of_R ho); have HIa := Aside0.mk (HI.out.out0 hb hg ho hat); have ha3 := blk_grown HI.out.arr hg (Kd.R_ne HI.out.r0 HI.out.arr (by decide)); have b3 := (blk_cell ha3 0).trans rfl; have f3 := blk_frozen ha3 0; clear ho hb hg hat ha3))
                    go_roundg (gk2 - 1)
                    case measure => have := HK.out; omega
                    case rel => exact ⟨i + 1, kn, o ++ [(a : Int)], _, (by first | (rw [HW1.out]; done) | go_num | (simp; done)), ⟨by have := HK.out; omega⟩, ⟨by have := HNX.out; rw [HSK.out, if_neg (by omega)] at this; exact this⟩, ⟨by have := HIa.out; rw [List.length_append, List.length_singleton] at this; exact this⟩⟩
                  · have z5 : ((rdOf ByteArray.empty kn (a : Int)).toList != q.toList) = true := bne_iff_ne.mpr he
                    have z6 : ((rdOf ByteArray.empty kn (a : Int)).toList == q.toList) = false := beq_eq_false_iff_ne.mpr he
                    have hsk : a + 1 + seekF q (kn.drop (a + 1)) = seekF q kn := by
                      have := HS3.out
                      rw [hdr, ← Pure.rd_nat] at this
                      simp only [seekF] at this
                      rw [if_neg he] at this
                      omega
                    have HSK := Aside0.mk hsk
                    clear hdr hsk he
                    go_wp2
                    go_roundg (gk - 1)
                    case measure => have := HK3.out; omega
                    case rel => exact ⟨a + 1, (by have hw : wrap64 ((a : Int) + 1) = ((a + 1 : Nat) : Int) := (by rw [Pure.w64' (by omega) (by have := HLIM.out; omega)]; omega); first | (rw [hw]; done) | go_num | (simp; done)), ⟨by have := HK3.out; omega⟩, HSK, HI⟩
                · have hae : a = kn.length := by have := HK3.out; omega
                  have hsk : seekF q kn = kn.length := by
                    have := HS3.out
                    rw [List.drop_of_length_le (by omega)] at this
                    simp only [seekF] at this
                    omega
                  have HSK := Aside0.mk hsk
                  clear hsk HS3
                  have z3 : decide ((a : Int) < (kn.length : Int)) = false := decide_eq_false (by omega)
                  have z4 : decide (a < kn.length) = false := decide_eq_false ha
                  have z7 : ((a : Int) == (kn.length : Int)) = true := beq_iff_eq.mpr (by omega)
                  have z8 : (a == kn.length) = true := beq_iff_eq.mpr hae
                  have HAE := Aside0.mk hae
                  clear hae
                  go_wp2_with (first | ((with_reducible refine gate_builtin (b := .append) (xs := #[.tmp 60, .tmp 62]) rfl ?_); at_builtin; refine Kd.R_append Kd.string (w0 := w) w.heap.size rfl (.tmp 60) (.tmp 62) 26 9 (.string ⟨#[]⟩) 16 rfl Tryd.underlying26 info9 rfl (by decide) (by omega) (.slice A9 kn.length c9) kn q [.string q] (fun _ => True) (fun _ => False) rfl rfl ?aP (fun _ hk => hk.elim) ?aF ?aO ?aB ?aS ?aL ?_; (case aP => exact rfl); (case aB => exact HI.out.below); (case aF => exact (fun _ _ => trivial)); (case aO => exact HI.out.keys); (case aS => exact HI.out.below.size); (case aL => have := HLIM.out; omega); intro v4 w4 ho hb hg hat; have HIk := Aside0.mk (HI.out.key hb hg ho); have b4 := (blk_cell HIk.out.arr 0).trans rfl; clear ho hb hg hat) | ((with_reducible refine gate_builtin (b := .append) (xs := #[.tmp 67, .tmp 69]) rfl ?_); at_builtin; refine Kd.R_append (Kd.int .i64) (w0 := w) w.heap.size rfl (.tmp 67) (.tmp 69) 27 3 (.int .i64 0) 8 rfl Tryd.underlying27 info3 rfl (by decide) (by omega) vs o (a : Int) [.int .i64 (a : Int)] (fun k_ => some k_ ≠ v1.ownBlock) (fun _ => False) rfl rfl ?aP (fun _ hk => hk.elim) ?aF ?aO ?aB ?aS ?aL ?_; (case aP => exact rfl); (case aB => exact HIk.out.below); (case aF => exact (fun k_ hk_ hx_ => by have := Kd.R_lt HIk.out.r1 k_ hx_.symm; omega)); (case aO => exact HIk.out.r0); (case aS => exact HIk.out.below.size); (case aL => have := HLIM.out; omega); intro v2 w3 ho hb hg hat; obtain ⟨A2, c2, rfl⟩ := own_slice (Kd.own_of_R ho); have HIa := Aside0.mk (HIk.out.out0 hb hg ho hat); have ha3 := blk_grown HIk.out.arr hg (Kd.R_ne HIk.out.r0 HIk.out.arr (by decide)); have b3 := (blk_cell ha3 0).trans rfl; have f3 := blk_frozen ha3 0; clear ho hb hg hat ha3))
                  go_roundg (gk2 - 1)
                  case measure => have := HK.out; omega
                  case rel => exact ⟨i + 1, kn ++ [q], o ++ [(a : Int)], _, (by first | (rw [HW1.out]; done) | go_num | (simp; done)), ⟨by have := HK.out; omega⟩, ⟨by have := HNX.out; rw [HSK.out, if_pos rfl, ← HAE.out] at this; exact this⟩, ⟨by have := HIa.out; rw [List.length_append, List.length_singleton] at this; exact this⟩⟩
            · have hd : l0.drop i = [] := List.drop_of_length_le (by omega)
              have h1 := H.out
              rw [hd] at h1
              simp only [numR, Option.some.injEq, Prod.mk.injEq] at h1
              obtain ⟨e1, e2⟩ := h1
              have z1 : decide ((i : Int) < (l0.length : Int)) = false := decide_eq_false (by omega)
              have z2 : decide (i < l0.length) = false := decide_eq_false hi
              have HE := Aside0.mk (And.intro e1 e2)
              clear e1 e2
              go_wp2
              go_roundg (gk0 - 1)
              case measure => have := HK0.out; omega
              case rel => exact ⟨0 + 1, kn, o, [], vs, v1, by first | go_num | (simp; done), ⟨by have := HK0.out; omega⟩, ⟨.inr (.inl ⟨rfl, HE.out.2, HE.out.1, rfl⟩)⟩, HI⟩
        · clear HS
          go_wp2
          obtain ⟨wo, rfl⟩ : ∃ wo : World, wo = wr := ⟨_, rfl⟩
          obtain ⟨gk0, rfl⟩ : ∃ z : Nat, z = gk := ⟨_, rfl⟩
          go_loopg [9, 13, 14, 15] (l1.length + 1) (fun kq v9 v13 v14 v15 w' => ∃ (i : Nat) (kn : List ByteArray) (o : List Int) (vs : Value), v13 = .int .i64 (i : Int) ∧ Aside0 (i + kq = l1.length + 1 ∧ i ≤ l1.length) ∧ Aside0 (numR k a2 (l1.drop i) kn o = some (y, ky)) ∧ Aside0 (OutIn w w.heap.size v9 kn v0 vs o0 o w'))
          case atStart => exact ⟨0, _, [], v1, rfl, ⟨by omega⟩, HY, HI⟩
          case round =>
            clear HI
            obtain ⟨i, kn, o, vs, rfl, HK, H, HI⟩ := hrel
            obtain ⟨A9, c9, rfl⟩ := own_slice (Kd.own_of_R HI.out.keys)
            by_cases hi : i < l1.length
            · have p1 : 0 ≤ (i : Int) := by omega
              have q1 : (i : Int) < (l1.length : Int) := by omega
              have H1 := H.out
              rw [dropB l1 ByteArray.empty i hi] at H1
              simp only [numR] at H1
              obtain ⟨q, hq, hn⟩ := Option.bind_eq_some_iff.mp H1
              split at hn
              case isFalse => cases hn
              rename_i hlim
              rw [← Pure.rd_nat] at hq
              have HQ := Aside0.mk hq
              have HLIM := Aside0.mk hlim
              have HNX := Aside0.mk hn
              clear hn H1 H hq hlim
              obtain ⟨ad, e1, hx0⟩ := Kd.at_string (Kd.C_below HR1.out HI.out.below) (i : Int) p1 q1
              cases e1
              simp only [Int.toNat_natCast] at hx0
              have HW1 : Aside0 (wrap64 ((i : Int) + 1) = ((i + 1 : Nat) : Int)) := ⟨by rw [Pure.w64' (by omega) (by have := HL.out; omega)]; omega⟩
              have z1 : decide ((i : Int) < (l1.length : Int)) = true := decide_eq_true q1
              have z2 : decide (i < l1.length) = true := decide_eq_true hi
              go_wp2_with (go_at_call 9; (with_reducible refine (selvageref05_Key.calls k (rdOf ByteArray.empty l1 (i : Int)) a2 q _ HQ.out).mono ?_); rintro x w1 ⟨rfl, hb⟩; have HI1 := Aside0.mk (HI.out.then hb); clear HI hb)
              clear hx0
              obtain ⟨gk2, rfl⟩ : ∃ z : Nat, z = gk := ⟨_, rfl⟩
              obtain ⟨wp, rfl⟩ : ∃ wp : World, wp = wr := ⟨_, rfl⟩
              go_loopg [15] (kn.length + 1) (fun kq v15 w' => ∃ (a : Nat), v15 = .int .i64 (a : Int) ∧ Aside0 (a + kq = kn.length + 1 ∧ a ≤ kn.length) ∧ Aside0 (a + seekF q (kn.drop a) = seekF q kn) ∧ Aside0 (OutIn w w.heap.size (.slice A9 kn.length c9) kn v0 vs o0 o w'))
              case atStart => exact ⟨0, rfl, ⟨by omega⟩, ⟨by rw [List.drop_zero]; omega⟩, HI1⟩
              case round =>
                clear HI1
                obtain ⟨a, rfl, HK3, HS3, HI⟩ := hrel
                have HRK := (Kd.R_reads' HI.out.keys).2.2
                by_cases ha : a < kn.length
                · have p3 : 0 ≤ (a : Int) := by omega
                  have q3 : (a : Int) < (kn.length : Int) := by omega
                  obtain ⟨ae, e1, hx0⟩ := Kd.at_string HRK (a : Int) p3 q3
                  cases e1
                  simp only [Int.toNat_natCast] at hx0
                  have z3 : decide ((a : Int) < (kn.length : Int)) = true := decide_eq_true q3
                  have z4 : decide (a < kn.length) = true := decide_eq_true ha
                  have hdr := dropB kn ByteArray.empty a ha
                  by_cases he : (rdOf ByteArray.empty kn (a : Int)).toList = q.toList
                  · have z5 : ((rdOf ByteArray.empty kn (a : Int)).toList != q.toList) = false := bne_eq_false_iff_eq.mpr he
                    have z6 : ((rdOf ByteArray.empty kn (a : Int)).toList == q.toList) = true := beq_iff_eq.mpr he
                    have hsk : seekF q kn = a := by
                      have := HS3.out
                      rw [hdr, ← Pure.rd_nat] at this
                      simp only [seekF] at this
                      rw [if_pos he] at this
                      omega
                    have HSK := Aside0.mk hsk
                    clear hdr hsk he
                    have z7 : ((a : Int) == (kn.length : Int)) = false := beq_eq_false_iff_ne.mpr (by omega)
                    have z8 : (a == kn.length) = false := beq_eq_false_iff_ne.mpr (by omega)
                    have b2 := (blk_cell HI.out.arr 1).trans rfl
                    go_wp2_with (first | ((with_reducible refine gate_builtin (b := .append) (xs := #[.tmp 67, .tmp 69]) rfl ?_); at_builtin; refine Kd.R_append (Kd.int .i64) (w0 := w) w.heap.size rfl (.tmp 67) (.tmp 69) 27 3 (.int .i64 0) 8 rfl Tryd.underlying27 info3 rfl (by decide) (by omega) vs o (a : Int) [.int .i64 (a : Int)] (fun k_ => some k_ ≠ v0.ownBlock) (fun _ => False) rfl rfl ?aP (fun _ hk => hk.elim) ?aF ?aO ?aB ?aS ?aL ?_; (case aP => exact rfl); (case aB => exact HI.out.below); (case aF => exact (fun k_ hk_ hx_ => by have := Kd.R_lt HI.out.r0 k_ hx_.symm; omega)); (case aO => exact HI.out.r1); (case aS => exact HI.out.below.size); (case aL => have := HLIM.out; omega); intro v2 w3 ho hb hg hat; obtain ⟨A2, c2, rfl⟩ := own_slice (Kd.own_of_R ho); have HIa := Aside0.mk (HI.out.out1 hb hg ho hat); have ha3 := blk_grown HI.out.arr hg (Kd.R_ne HI.out.r1 HI.out.arr (by decide)); have b3 := (blk_cell ha3 1).trans rfl; have f3 := blk_frozen ha3 1; clear ho hb hg hat ha3))
                    go_roundg (gk2 - 1)
                    case measure => have := HK.out; omega
                    case rel => exact ⟨i + 1, kn, o ++ [(a : Int)], _, (by first | (rw [HW1.out]; done) | go_num | (simp; done)), ⟨by have := HK.out; omega⟩, ⟨by have := HNX.out; rw [HSK.out, if_neg (by omega)] at this; exact this⟩, ⟨by have := HIa.out; rw [List.length_append, List.length_singleton] at this; exact this⟩⟩
                  · have z5 : ((rdOf ByteArray.empty kn (a : Int)).toList != q.toList) = true := bne_iff_ne.mpr he
                    have z6 : ((rdOf ByteArray.empty kn (a : Int)).toList == q.toList) = false := beq_eq_false_iff_ne.mpr he
                    have hsk : a + 1 + seekF q (kn.drop (a + 1)) = seekF q kn := by
                      have := HS3.out
                      rw [hdr, ← Pure.rd_nat] at this
                      simp only [seekF] at this
                      rw [if_neg he] at this
                      omega
                    have HSK := Aside0.mk hsk
                    clear hdr hsk he
                    go_wp2
                    go_roundg (gk - 1)
                    case measure => have := HK3.out; omega
                    case rel => exact ⟨a + 1, (by have hw : wrap64 ((a : Int) + 1) = ((a + 1 : Nat) : Int) := (by rw [Pure.w64' (by omega) (by have := HLIM.out; omega)]; omega); first | (rw [hw]; done) | go_num | (simp; done)), ⟨by have := HK3.out; omega⟩, HSK, HI⟩
                · have hae : a = kn.length := by have := HK3.out; omega
                  have hsk : seekF q kn = kn.length := by
                    have := HS3.out
                    rw [List.drop_of_length_le (by omega)] at this
                    simp only [seekF] at this
                    omega
                  have HSK := Aside0.mk hsk
                  clear hsk HS3
                  have z3 : decide ((a : Int) < (kn.length : Int)) = false := decide_eq_false (by omega)
                  have z4 : decide (a < kn.length) = false := decide_eq_false ha
                  have z7 : ((a : Int) == (kn.length : Int)) = true := beq_iff_eq.mpr (by omega)
                  have z8 : (a == kn.length) = true := beq_iff_eq.mpr hae
                  have HAE := Aside0.mk hae
                  clear hae
                  go_wp2_with (first | ((with_reducible refine gate_builtin (b := .append) (xs := #[.tmp 60, .tmp 62]) rfl ?_); at_builtin; refine Kd.R_append Kd.string (w0 := w) w.heap.size rfl (.tmp 60) (.tmp 62) 26 9 (.string ⟨#[]⟩) 16 rfl Tryd.underlying26 info9 rfl (by decide) (by omega) (.slice A9 kn.length c9) kn q [.string q] (fun _ => True) (fun _ => False) rfl rfl ?aP (fun _ hk => hk.elim) ?aF ?aO ?aB ?aS ?aL ?_; (case aP => exact rfl); (case aB => exact HI.out.below); (case aF => exact (fun _ _ => trivial)); (case aO => exact HI.out.keys); (case aS => exact HI.out.below.size); (case aL => have := HLIM.out; omega); intro v4 w4 ho hb hg hat; have HIk := Aside0.mk (HI.out.key hb hg ho); have b4 := (blk_cell HIk.out.arr 1).trans rfl; clear ho hb hg hat) | ((with_reducible refine gate_builtin (b := .append) (xs := #[.tmp 67, .tmp 69]) rfl ?_); at_builtin; refine Kd.R_append (Kd.int .i64) (w0 := w) w.heap.size rfl (.tmp 67) (.tmp 69) 27 3 (.int .i64 0) 8 rfl Tryd.underlying27 info3 rfl (by decide) (by omega) vs o (a : Int) [.int .i64 (a : Int)] (fun k_ => some k_ ≠ v0.ownBlock) (fun _ => False) rfl rfl ?aP (fun _ hk => hk.elim) ?aF ?aO ?aB ?aS ?aL ?_; (case aP => exact rfl); (case aB => exact HIk.out.below); (case aF => exact (fun k_ hk_ hx_ => by have := Kd.R_lt HIk.out.r0 k_ hx_.symm; omega)); (case aO => exact HIk.out.r1); (case aS => exact HIk.out.below.size); (case aL => have := HLIM.out; omega); intro v2 w3 ho hb hg hat; obtain ⟨A2, c2, rfl⟩ := own_slice (Kd.own_of_R ho); have HIa := Aside0.mk (HIk.out.out1 hb hg ho hat); have ha3 := blk_grown HIk.out.arr hg (Kd.R_ne HIk.out.r1 HIk.out.arr (by decide)); have b3 := (blk_cell ha3 1).trans rfl; have f3 := blk_frozen ha3 1; clear ho hb hg hat ha3))
                  go_roundg (gk2 - 1)
                  case measure => have := HK.out; omega
                  case rel => exact ⟨i + 1, kn ++ [q], o ++ [(a : Int)], _, (by first | (rw [HW1.out]; done) | go_num | (simp; done)), ⟨by have := HK.out; omega⟩, ⟨by have := HNX.out; rw [HSK.out, if_pos rfl, ← HAE.out] at this; exact this⟩, ⟨by have := HIa.out; rw [List.length_append, List.length_singleton] at this; exact this⟩⟩
            · have hd : l1.drop i = [] := List.drop_of_length_le (by omega)
              have h1 := H.out
              rw [hd] at h1
              simp only [numR, Option.some.injEq, Prod.mk.injEq] at h1
              obtain ⟨e1, e2⟩ := h1
              have z1 : decide ((i : Int) < (l1.length : Int)) = false := decide_eq_false (by omega)
              have z2 : decide (i < l1.length) = false := decide_eq_false hi
              have HE := Aside0.mk (And.intro e1 e2)
              clear e1 e2
              go_wp2
              go_roundg (gk0 - 1)
              case measure => have := HK0.out; omega
              case rel => exact ⟨1 + 1, kn, o0, o, v0, vs, by first | go_num | (simp; done), ⟨by have := HK0.out; omega⟩, ⟨.inr (.inr ⟨rfl, HE.out.2, rfl, HE.out.1⟩)⟩, HI⟩
        · clear HS HX HY
          have a0 := (blk_cell HI.out.arr 0).trans rfl
          have a1 := (blk_cell HI.out.arr 1).trans rfl
          go_wp2
          go_quiet (fail)
          go_wp2
          go_ret3
          exact ⟨_, _, rfl, (HI.out.then (pw_below_drewN (Below.refl _ _) _)).r0, (HI.out.then (pw_below_drewN (Below.refl _ _) _)).r1, (HI.out.then (pw_below_drewN (Below.refl _ _) _)).below⟩
end Go.Proofs.YtpfhgaaphaalgaaDoor.Ext
