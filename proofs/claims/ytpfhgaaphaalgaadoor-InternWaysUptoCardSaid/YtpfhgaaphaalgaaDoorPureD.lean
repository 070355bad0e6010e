/-
  InternTells, in plain Lean: numbers are alike just where keys are; they come from 0 on.
-/
import Derived.Test.YtpfhgaaphaalgaaDoorPureC
import Derived.Test.YtpfhgaaphaalgaaDoorPp4
namespace Go.Proofs.YtpfhgaaphaalgaaDoor.Pure
open Go.RowKit Go.Proofs.YtpfhgaaphaalgaaDoor.Pp Go.Proofs.YtpfhgaaphaalgaaDoor.Ext Go.Proofs.YtpfhgaaphaalgaaDoorW.PrintWords Go.Proofs.YtpfhgaaphaalgaaDoorW.PrintLast Go.Proofs.YtpfhgaaphaalgaaDoorW.PrintMore
theorem nbO_app : ∀ (x y ks : List (List UInt8)), nbO (x ++ y) ks = nbO x ks ++ nbO y (nbK x ks)
  | [], _, _ => rfl
  | q :: t, y, ks => by simp only [List.cons_append, nbO, nbK, nbO_app t]
theorem nbK_app : ∀ (x y ks : List (List UInt8)), nbK (x ++ y) ks = nbK y (nbK x ks)
  | [], _, _ => rfl
  | q :: t, y, ks => by simp only [List.cons_append, nbK, nbK_app t]
theorem addK_pre (ks : List (List UInt8)) (q : List UInt8) : ∃ r, addK ks q = ks ++ r := by
  unfold addK; split
  · exact ⟨[], by simp⟩
  · exact ⟨[q], rfl⟩
theorem nbK_pre : ∀ (l ks : List (List UInt8)), ∃ r, nbK l ks = ks ++ r
  | [], ks => ⟨[], by simp [nbK]⟩
  | q :: t, ks => by
    obtain ⟨r1, h1⟩ := addK_pre ks q
    obtain ⟨r2, h2⟩ := nbK_pre t (addK ks q)
    exact ⟨r1 ++ r2, by rw [nbK, h2, h1, List.append_assoc]⟩
theorem addK_mem (ks : List (List UInt8)) (q : List UInt8) : q ∈ addK ks q := by
  unfold addK; split
  · rename_i h; simpa using h
  · simp
theorem addK_idx (ks : List (List UInt8)) (q : List UInt8) : (addK ks q).idxOf q = ks.idxOf q := by
  unfold addK; split
  · rfl
  · rename_i h
    have hm : q ∉ ks := by simpa using h
    rw [List.idxOf_append, if_neg hm, List.idxOf_eq_length hm]
    simp
theorem nbO_fin : ∀ (l ks : List (List UInt8)), nbO l ks = l.map (fun q => ((nbK l ks).idxOf q : Int)) ∧ ∀ q ∈ l, q ∈ nbK l ks
  | [], _ => ⟨rfl, fun q h => by cases h⟩
  | q :: t, ks => by
    obtain ⟨i1, i2⟩ := nbO_fin t (addK ks q)
    obtain ⟨r, hr⟩ := nbK_pre t (addK ks q)
    have hm : q ∈ nbK t (addK ks q) := by rw [hr]; exact List.mem_append_left _ (addK_mem ks q)
    constructor
    · rw [nbO, List.map_cons, nbK, ← i1]
      congr 2
      rw [hr, List.idxOf_append, if_pos (addK_mem ks q), addK_idx]
    · intro p hp
      rcases List.mem_cons.mp hp with rfl | hp
      · exact hm
      · exact i2 p hp
theorem idx_inj (F : List (List UInt8)) (p q : List UInt8) (hp : p ∈ F) (hq : q ∈ F) : F.idxOf p = F.idxOf q ↔ p = q := by
  constructor
  · intro h
    have h1 := List.idxOf_lt_length_of_mem hp
    have h2 := List.idxOf_lt_length_of_mem hq
    have e1 : F[F.idxOf p] = p := List.getElem_idxOf h1
    have e2 : F[F.idxOf q] = q := List.getElem_idxOf h2
    rw [← e1, ← e2]
    simp [h]
  · intro h; rw [h]
theorem idx_le (F : List (List UInt8)) (p : List UInt8) : F.idxOf p ≤ F.length := by
  by_cases h : p ∈ F
  · exact Nat.le_of_lt (List.idxOf_lt_length_of_mem h)
  · exact Nat.le_of_eq (List.idxOf_eq_length h)
def seen (K : List (List UInt8)) (i : Nat) : List (List UInt8) := nbK (K.take i) []
theorem seen_len (K : List (List UInt8)) (i : Nat) : (seen K i).length ≤ i := by
  have := nbK_len (K.take i) []
  unfold seen
  simp at this
  omega
theorem seen_succ (K : List (List UInt8)) (i : Nat) (h : i < K.length) : seen K (i + 1) = addK (seen K i) (K.getD i []) := by
  unfold seen
  rw [List.take_succ_eq_append_getElem h, nbK_app, List.getD_eq_getElem?_getD, List.getElem?_eq_getElem h]
  rfl
theorem ids_at (K : List (List UInt8)) (i : Nat) (h : i < K.length) : (nbO K []).getD i 0 = ((seen K i).idxOf (K.getD i []) : Int) := by
  have e : nbO K [] = nbO (K.take i) [] ++ nbO (K.drop i) (seen K i) := by rw [seen, ← nbO_app, List.take_append_drop]
  rw [e, List.drop_eq_getElem_cons h, nbO, List.getD_eq_getElem?_getD, List.getElem?_append_right (by rw [nbO_len, List.length_take]; omega), nbO_len, List.length_take, show i - min i K.length = 0 by omega]
  rw [List.getD_eq_getElem?_getD, List.getElem?_eq_getElem h]
  rfl
theorem ids_eq (K : List (List UInt8)) (i j : Nat) (hi : i < K.length) (hj : j < K.length) : ((nbO K []).getD i 0 == (nbO K []).getD j 0) = decide (K.getD i [] = K.getD j []) := by
  obtain ⟨h1, h2⟩ := nbO_fin K []
  rw [h1]
  simp only [List.getD_eq_getElem?_getD, List.getElem?_map, List.getElem?_eq_getElem hi, List.getElem?_eq_getElem hj, Option.map_some, Option.getD_some]
  have := idx_inj (nbK K []) K[i] K[j] (h2 _ (List.getElem_mem _)) (h2 _ (List.getElem_mem _))
  by_cases c : K[i] = K[j]
  · rw [decide_eq_true c, c]; simp
  · rw [decide_eq_false c]
    exact beq_eq_false_iff_ne.mpr (fun x => c (this.mp (by omega)))
theorem keyS_zero (s : ByteArray) : keyS s 0 = s := by
  unfold keyS
  rw [if_pos (by omega)]
  have e2 : Go.bits .and .i64 0 2 = 0 := by decide
  have e4 : Go.bits .and .i64 0 4 = 0 := by decide
  have e8 : Go.bits .and .i64 0 8 = 0 := by decide
  have e1 : Go.bits .and .i64 0 1 = 0 := by decide
  unfold lowE midL
  rw [if_pos e1, if_pos e2, if_pos e4, if_pos e8, mk_data]
  unfold bare
  split
  · rename_i h
    apply ba_ext
    rw [app_data, Lib.extract_data, Lib.extract_data, ByteArray.size_extract]
    simp only [List.drop_zero, Nat.sub_zero]
    rw [show min (s.size - 1) s.size = s.size - 1 by omega]
    conv => rhs; rw [← List.take_append_drop (s.size - 1) s.data.toList]
    congr 1
    exact List.take_of_length_le (by rw [List.length_drop, data_len]; omega)
  · apply ba_ext
    rw [app_data, Lib.extract_data]
    simp
theorem K_at (e : Int) (l : List ByteArray) (i : Nat) (h : i < l.length) : (kl e l).getD i [] = keyL (keyS (rdOf ByteArray.empty l (i : Int)) e) := by
  unfold kl
  rw [rd_nat, List.getD_eq_getElem?_getD, List.getD_eq_getElem?_getD, List.getElem?_map, List.getElem?_eq_getElem h]
  rfl
theorem rd_getD (l : List Int) (i : Nat) : rd l (i : Int) = l.getD i 0 := by unfold rd; rw [Int.toNat_natCast]
theorem mem_rd (l : List ByteArray) (i : Nat) (h : i < l.length) : rdOf ByteArray.empty l (i : Int) ∈ l := by
  rw [rd_nat, List.getD_eq_getElem?_getD, List.getElem?_eq_getElem h]
  exact List.getElem_mem _
theorem keyL_eq (x y : ByteArray) : (x.toList == y.toList) = decide (keyL x = keyL y) := by
  unfold keyL
  rw [Lib.toList_data, Lib.toList_data]
  by_cases c : x.data.toList = y.data.toList
  · rw [decide_eq_true c]; exact beq_iff_eq.mpr c
  · rw [decide_eq_false c]; exact beq_eq_false_iff_ne.mpr c
theorem tells_l1 (e : Int) (all : List ByteArray) (hs : small all) (hl : all.length ≤ 2000000000) (x12 : Int) (i : Nat) (hi : i < all.length) (H : Ev (fun k => selvagelaw05_InternTells.l0 k e all (nbO (kl e all) []) x12 ((i + 1 : Nat) : Int)) true) (d : Nat) :
    ∀ j : Nat, j + d = i → Ev (fun k => selvagelaw05_InternTells.l1 k e all (nbO (kl e all) []) x12 (i : Int) (j : Int)) true := by
  have hlen : (nbO (kl e all) []).length = all.length := by rw [nbO_len, kl_len]
  have w0 : wrap64 ((i : Int) + 1) = ((i + 1 : Nat) : Int) := w_add i 1 (by omega)
  induction d with
  | zero =>
    intro j h
    exact Ev.step (fun k => by rw [selvagelaw05_InternTells.l1, if_neg (by omega), w0]) H
  | succ d ih =>
    intro j h
    have w1 : wrap64 ((j : Int) + 1) = ((j + 1 : Nat) : Int) := w_add j 1 (by omega)
    have hq := ids_eq (kl e all) i j (by rw [kl_len]; exact hi) (by rw [kl_len]; omega)
    rw [K_at e all i hi, K_at e all j (by omega), ← rd_getD, ← rd_getD] at hq
    by_cases he : e = 0
    · refine Ev.step (fun k => ?_) (ih (j + 1) (by omega))
      rw [selvagelaw05_InternTells.l1, w1, if_pos (by omega), if_pos (by omega), if_pos (by omega), if_pos (by omega), if_pos (by omega), if_pos he, hlen, if_pos (by omega), if_pos (by omega), if_neg]
      rw [hq, keyL_eq, he, keyS_zero, keyS_zero]
      simp
    · have k1 := p_key (rdOf ByteArray.empty all (i : Int)) e (hs _ (mem_rd all i hi))
      have k2 := p_key (rdOf ByteArray.empty all (j : Int)) e (hs _ (mem_rd all j (by omega)))
      refine Ev.step (f := fun k => (intern_Key.f k (rdOf ByteArray.empty all (i : Int)) e).bind fun t218 => ((intern_Key.f k (rdOf ByteArray.empty all (j : Int)) e).bind fun t220 => (if (((rd (nbO (kl e all) []) (i : Int)) == (rd (nbO (kl e all) []) (j : Int))) != (t218.toList == t220.toList)) = true then (some false) else (selvagelaw05_InternTells.l1 k e all (nbO (kl e all) []) x12 (i : Int) ((j + 1 : Nat) : Int))))) (fun k => ?_) (Ev.bind k1 (Ev.bind k2 (Ev.same (fun k => ?_) (ih (j + 1) (by omega)))))
      · have c1 : (i : Int) < ((nbO (kl e all) []).length : Int) := by omega
        have c2 : (j : Int) < ((nbO (kl e all) []).length : Int) := by omega
        rw [selvagelaw05_InternTells.l1, w1, if_pos (by omega), if_pos (by omega), if_pos (by omega), if_pos (by omega), if_pos (by omega), if_neg he]
        simp only [if_pos c1, if_pos c2]
      · rw [if_neg]
        rw [hq, keyL_eq]
        simp
theorem tells_l0 (e : Int) (all : List ByteArray) (hs : small all) (hl : all.length ≤ 2000000000) (d : Nat) :
    ∀ i : Nat, i + d = all.length → Ev (fun k => selvagelaw05_InternTells.l0 k e all (nbO (kl e all) []) ((seen (kl e all) i).length : Int) (i : Int)) true := by
  have hlen : (nbO (kl e all) []).length = all.length := by rw [nbO_len, kl_len]
  have fin : ∀ (x12 : Int) (i : Int), Ev (fun k => selvagelaw05_InternTells.j2 k e all (nbO (kl e all) []) x12 i false) true := fun x12 i =>
    Ev.step (f := fun k => (selvagelaw05_sure.f k).bind fun t209 => (some t209)) (fun k => by rw [selvagelaw05_InternTells.j2, if_neg (by simp)]) (Ev.bind ev_sure (Ev.pure _))
  induction d with
  | zero =>
    intro i h
    exact Ev.step (fun k => by rw [selvagelaw05_InternTells.l0, if_neg (by omega)]) (fin _ _)
  | succ d ih =>
    intro i h
    by_cases h60 : (i : Int) < 60
    · have hK : i < (kl e all).length := by rw [kl_len]; omega
      have hid := ids_at (kl e all) i hK
      rw [← rd_getD] at hid
      have hle := idx_le (seen (kl e all) i) ((kl e all).getD i [])
      have hsl := seen_len (kl e all) i
      have hsu := seen_succ (kl e all) i hK
      have i1 := ih (i + 1) (by omega)
      refine Ev.step (fun k => by rw [selvagelaw05_InternTells.l0, if_pos (by omega), decide_eq_true h60]) (Ev.step (f := fun k => selvagelaw05_InternTells.j3 k e all (nbO (kl e all) []) ((seen (kl e all) i).length : Int) (i : Int) false) (fun k => ?_) (Ev.step (f := fun k => selvagelaw05_InternTells.j4 k e all (nbO (kl e all) []) ((seen (kl e all) (i + 1)).length : Int) (i : Int)) (fun k => ?_) (Ev.step (fun k => by rw [selvagelaw05_InternTells.j4]; rfl) (tells_l1 e all hs hl _ i (by omega) i1 i 0 (by omega)))))
      · rw [selvagelaw05_InternTells.j2, if_pos rfl, if_pos (by omega), hlen, if_pos (by omega), hid, if_neg (by omega), decide_eq_false (by omega)]
      · rw [selvagelaw05_InternTells.j3, if_neg (by simp), if_pos (by omega), hlen, if_pos (by omega), hid]
        by_cases c : ((kl e all).getD i []) ∈ seen (kl e all) i
        · have h1 := List.idxOf_lt_length_of_mem c
          rw [if_neg (by omega), hsu]
          unfold addK
          rw [if_pos (by simpa using c)]
        · have h1 := List.idxOf_eq_length c
          have w2 : wrap64 (((seen (kl e all) i).length : Int) + 1) = (((seen (kl e all) i).length + 1 : Nat) : Int) := w_add _ 1 (by omega)
          rw [if_pos (by omega), hsu]
          unfold addK
          rw [if_neg (by simpa using c), w2, List.length_append, List.length_singleton]
    · exact Ev.step (fun k => by rw [selvagelaw05_InternTells.l0, if_pos (by omega), decide_eq_false h60]) (fin _ _)
theorem and15 (a : Int) : 0 ≤ Go.bits .and .i64 a 15 ∧ Go.bits .and .i64 a 15 ≤ 15 := by
  unfold bits
  simp only []
  have e : (BitVec.ofInt IntKind.i64.bits 15).toNat = 15 := by decide
  rw [BitVec.toNat_and, e]
  have h : (BitVec.ofInt IntKind.i64.bits a).toNat &&& 15 ≤ 15 := Nat.and_le_right
  generalize (BitVec.ofInt IntKind.i64.bits a).toNat &&& 15 = n at h
  rw [IntKind.wrap_i64]
  omega
theorem InternTells : ∀ (a0 a1 : List ByteArray) (a2 : Int), (Lit.int .i64 a2).wf = true → ((a0.map (·.size)).sum + a0.length + 1) + ((a1.map (·.size)).sum + a1.length + 1) + 1 ≤ 1048576 → ∃ k, selvagelaw05_InternTells.f k a0 a1 a2 = some true := by
  intro a0 a1 a2 hw hb
  obtain ⟨b0, b1⟩ := and15 a2
  generalize he : Go.bits .and .i64 a2 15 = e at b0 b1
  have h0 : small a0 := fun x hx => by have := size_sum a0 x hx; omega
  have h1 : small a1 := fun x hx => by have := size_sum a1 x hx; omega
  have hs : small (a0 ++ a1) := fun x hx => by
    rcases List.mem_append.mp hx with h | h
    · exact h0 x h
    · exact h1 x h
  have hx : idsX e a0 = nbO (kl e a0) [] := by unfold idsX; rw [if_pos ⟨b0, b1⟩]
  have hy : idsY e a0 a1 = nbO (kl e a1) (nbK (kl e a0) []) := by unfold idsY; rw [if_pos ⟨b0, b1⟩]
  have hE : idsE e = none := by unfold idsE; rw [if_pos ⟨b0, b1⟩]
  have hp := p_ids e a0 a1 h0 h1 (by omega) (by omega)
  rw [hx, hy, hE] at hp
  have l1 : (nbO (kl e a0) []).length = a0.length := by rw [nbO_len, kl_len]
  have l2 : (nbO (kl e a1) (nbK (kl e a0) [])).length = a1.length := by rw [nbO_len, kl_len]
  have hall : nbO (kl e a0) [] ++ nbO (kl e a1) (nbK (kl e a0) []) = nbO (kl e (a0 ++ a1)) [] := by unfold kl; rw [List.map_append, nbO_app]
  have ht := tells_l0 e (a0 ++ a1) hs (by rw [List.length_append]; omega) (a0 ++ a1).length 0 (by omega)
  refine Ev.get (F := fun k => selvagelaw05_InternTells.f k a0 a1 a2) (Ev.same (G := fun k => (intern_Ids.f k a0 a1 e).bind fun bt189 => (if bt189.2.2.isNone = true then (if (bt189.1.length : Int) = (a0.length : Int) then (selvagelaw05_InternTells.j0 k a0 a1 e bt189.1 bt189.2.1 ((bt189.2.1.length : Int) != (a1.length : Int))) else (selvagelaw05_InternTells.j0 k a0 a1 e bt189.1 bt189.2.1 true)) else (selvagelaw05_InternTells.j0 k a0 a1 e bt189.1 bt189.2.1 true))) (fun k => by unfold selvagelaw05_InternTells.f; rw [he]) (Ev.bind hp (Ev.same (G := fun k => selvagelaw05_InternTells.j0 k a0 a1 e (nbO (kl e a0) []) (nbO (kl e a1) (nbK (kl e a0) [])) false) (fun k => ?_) (Ev.step (fun k => ?_) ht))))
  · rw [if_pos (show (none : Option Int).isNone = true from rfl), if_pos (by rw [l1]), l2]
    simp
  · rw [selvagelaw05_InternTells.j0, if_neg (by simp), if_pos (by simp; omega), Option.bind_some, if_pos (by simp; omega), if_pos (by simp; omega), Option.bind_some, if_pos (by simp; omega), List.nil_append, List.nil_append, hall]
    rfl
end Go.Proofs.YtpfhgaaphaalgaaDoor.Pure
