/-
  Numbers of lines, in plain Lean: the program's and the document's are the same; InternIds, InternOwn.
-/
import Derived.Test.YtpfhgaaphaalgaaDoorPureB
import Derived.Test.YtpfhgaaphaalgaaDoorPp5
namespace Go.Proofs.YtpfhgaaphaalgaaDoor.Pure
open Go.RowKit Go.Proofs.YtpfhgaaphaalgaaDoor.Pp Go.Proofs.YtpfhgaaphaalgaaDoor.Ext Go.Proofs.YtpfhgaaphaalgaaDoorW.PrintWords Go.Proofs.YtpfhgaaphaalgaaDoorW.PrintLast Go.Proofs.YtpfhgaaphaalgaaDoorW.PrintMore
def addK (ks : List (List UInt8)) (q : List UInt8) : List (List UInt8) := if ks.contains q = true then ks else ks ++ [q]
def nbO : List (List UInt8) → List (List UInt8) → List Int
  | [], _ => []
  | q :: t, ks => (ks.idxOf q : Int) :: nbO t (addK ks q)
def nbK : List (List UInt8) → List (List UInt8) → List (List UInt8)
  | [], ks => ks
  | q :: t, ks => nbK t (addK ks q)
def kl (e : Int) (l : List ByteArray) : List (List UInt8) := l.map fun s => keyL (keyS s e)
theorem kl_cons (e : Int) (s : ByteArray) (l : List ByteArray) : kl e (s :: l) = keyL (keyS s e) :: kl e l := rfl
theorem nbO_len : ∀ (l ks : List (List UInt8)), (nbO l ks).length = l.length
  | [], _ => rfl
  | q :: t, ks => by simp only [nbO, List.length_cons, nbO_len t]
theorem addK_len (ks : List (List UInt8)) (q : List UInt8) : (addK ks q).length ≤ ks.length + 1 := by unfold addK; split <;> simp
theorem nbK_len : ∀ (l ks : List (List UInt8)), (nbK l ks).length ≤ ks.length + l.length
  | [], _ => Nat.le_refl _
  | q :: t, ks => by have := nbK_len t (addK ks q); have := addK_len ks q; simp only [nbK, List.length_cons]; omega
def small (l : List ByteArray) : Prop := ∀ x ∈ l, x.size ≤ 4000000000
theorem numF_at (e : Int) : ∀ (l : List ByteArray) (ks : List (List UInt8)) (out : List Int), small l → l.length + ks.length ≤ 4000000000 → l.length + out.length ≤ 4000000000 →
    Ev (fun k => numF k e l ks out) (out ++ nbO (kl e l) ks, nbK (kl e l) ks)
  | [], ks, out, _, _, _ => by
    show Ev (fun _ => some (out, ks)) (out ++ [], ks)
    rw [List.append_nil]
    exact Ev.pure _
  | s :: t, ks, out, hs, h1, h2 => by
    simp only [List.length_cons] at h1 h2
    have hz := hs s (by simp)
    have hks := keyS_size s e
    have ha := addK_len ks (keyL (keyS s e))
    have ih := numF_at e t (addK ks (keyL (keyS s e))) (out ++ [(ks.idxOf (keyL (keyS s e)) : Int)]) (fun x hx => hs x (by simp [hx])) (by omega) (by rw [List.length_append, List.length_singleton]; omega)
    rw [kl_cons, nbO, nbK, show out ++ (ks.idxOf (keyL (keyS s e)) : Int) :: nbO (kl e t) (addK ks (keyL (keyS s e))) = (out ++ [(ks.idxOf (keyL (keyS s e)) : Int)]) ++ nbO (kl e t) (addK ks (keyL (keyS s e))) by simp]
    show Ev (fun k => (intern_Key.f k s e).bind _) _
    exact Ev.bind (p_key s e hz) (Ev.same (fun k => by rw [if_pos ⟨by omega, by omega, by omega⟩]; rfl) ih)
theorem seek_idx (q : ByteArray) : ∀ ks : List ByteArray, seekF q ks = (ks.map keyL).idxOf (keyL q)
  | [] => rfl
  | x :: t => by
    simp only [seekF, List.map_cons, List.idxOf_cons]
    rw [Lib.toList_data, Lib.toList_data]
    by_cases h : x.data.toList = q.data.toList
    · rw [if_pos h, show (keyL x == keyL q) = true from beq_iff_eq.mpr h]; rfl
    · rw [if_neg h, show (keyL x == keyL q) = false from beq_eq_false_iff_ne.mpr h, seek_idx q t]; rfl
theorem seek_add (q : ByteArray) (ks : List ByteArray) : (if seekF q ks = ks.length then ks ++ [q] else ks).map keyL = addK (ks.map keyL) (keyL q) := by
  rw [seek_idx]
  unfold addK
  by_cases h : keyL q ∈ ks.map keyL
  · have h1 := List.idxOf_lt_length_of_mem h
    rw [List.length_map] at h1
    rw [if_neg (by omega), if_pos (by simpa using h)]
  · have h1 := List.idxOf_eq_length h
    rw [List.length_map] at h1
    rw [if_pos h1, if_neg (by simpa using h), List.map_append]
    rfl
theorem numR_at (e : Int) : ∀ (l ks : List ByteArray) (out : List Int), small l → l.length + ks.length ≤ 4000000000 → l.length + out.length ≤ 4000000000 →
    ∃ ks' : List ByteArray, ks'.map keyL = nbK (kl e l) (ks.map keyL) ∧ Ev (fun k => numR k e l ks out) (out ++ nbO (kl e l) (ks.map keyL), ks')
  | [], ks, out, _, _, _ => by
    refine ⟨ks, rfl, ?_⟩
    show Ev (fun _ => some (out, ks)) (out ++ [], ks)
    rw [List.append_nil]
    exact Ev.pure _
  | s :: t, ks, out, hs, h1, h2 => by
    simp only [List.length_cons] at h1 h2
    have hz := hs s (by simp)
    have ha : (if seekF (keyS s e) ks = ks.length then ks ++ [keyS s e] else ks).length ≤ ks.length + 1 := by split <;> simp
    obtain ⟨ks', i1, i2⟩ := numR_at e t (if seekF (keyS s e) ks = ks.length then ks ++ [keyS s e] else ks) (out ++ [(seekF (keyS s e) ks : Int)]) (fun x hx => hs x (by simp [hx])) (by omega) (by rw [List.length_append, List.length_singleton]; omega)
    rw [seek_add] at i1 i2
    refine ⟨ks', i1, ?_⟩
    rw [kl_cons, nbO, ← seek_idx, show out ++ (seekF (keyS s e) ks : Int) :: nbO (kl e t) (addK (ks.map keyL) (keyL (keyS s e))) = (out ++ [(seekF (keyS s e) ks : Int)]) ++ nbO (kl e t) (addK (ks.map keyL) (keyL (keyS s e))) by simp]
    show Ev (fun k => (selvageref05_Key.f k s e).bind _) _
    exact Ev.bind (r_key s e hz) (Ev.same (fun k => by rw [if_pos ⟨by omega, by omega⟩]) i2)
def idsX (e : Int) (a : List ByteArray) : List Int := if 0 ≤ e ∧ e ≤ 15 then nbO (kl e a) [] else []
def idsY (e : Int) (a b : List ByteArray) : List Int := if 0 ≤ e ∧ e ≤ 15 then nbO (kl e b) (nbK (kl e a) []) else []
def idsE (e : Int) : Option Int := if 0 ≤ e ∧ e ≤ 15 then none else some 1
theorem kl_len (e : Int) (l : List ByteArray) : (kl e l).length = l.length := List.length_map _
theorem p_ids (e : Int) (a b : List ByteArray) (ha : small a) (hb : small b) (h1 : a.length ≤ 1000000000) (h2 : b.length ≤ 1000000000) : Ev (fun k => intern_Ids.f k a b e) (idsX e a, idsY e a b, idsE e) := by
  unfold idsX idsY idsE intern_Ids.f
  have hk := nbK_len (kl e a) []
  rw [kl_len] at hk
  simp only [List.length_nil] at hk
  by_cases h : 0 ≤ e ∧ e ≤ 15
  · rw [if_pos h, if_pos h, if_pos h]
    have e1 := numF_at e a [] [] ha (by simp; omega) (by simp; omega)
    have e2 := numF_at e b (nbK (kl e a) []) [] hb (by omega) (by simp; omega)
    rw [List.nil_append] at e1 e2
    refine Ev.same (fun k => by rw [if_neg (by omega), if_neg (by omega), if_pos ⟨by omega, by omega⟩]) (Ev.bind e1 (Ev.bind e2 (Ev.pure (nbO (kl e a) [], nbO (kl e b) (nbK (kl e a) []), none))))
  · rw [if_neg h, if_neg h, if_neg h]
    refine Ev.same (G := fun _ => some ([], [], some 1)) (fun k => ?_) (Ev.pure _)
    by_cases c : e < 0
    · rw [if_pos c]
    · rw [if_neg c, if_pos (by omega)]
theorem r_ids (e : Int) (a b : List ByteArray) (ha : small a) (hb : small b) (h1 : a.length ≤ 1000000000) (h2 : b.length ≤ 1000000000) : Ev (fun k => selvageref05_Ids.f k a b e) (idsX e a, idsY e a b, (idsE e).getD 0) := by
  unfold idsX idsY idsE selvageref05_Ids.f
  have hk := nbK_len (kl e a) []
  rw [kl_len] at hk
  simp only [List.length_nil] at hk
  by_cases h : 0 ≤ e ∧ e ≤ 15
  · rw [if_pos h, if_pos h, if_pos h]
    obtain ⟨k1, m1, e1⟩ := numR_at e a [] [] ha (by simp; omega) (by simp; omega)
    have hl : k1.length = (nbK (kl e a) []).length := by rw [← List.map_nil (f := keyL), ← m1, List.length_map]
    obtain ⟨k2, m2, e2⟩ := numR_at e b k1 [] hb (by omega) (by simp; omega)
    rw [m1] at e2
    rw [List.nil_append] at e1 e2
    refine Ev.same (fun k => by rw [if_neg (by omega), if_neg (by omega), if_pos ⟨by omega, by omega⟩]) (Ev.bind e1 (Ev.bind e2 (Ev.pure (nbO (kl e a) [], nbO (kl e b) (nbK (kl e a) []), (0 : Int)))))
  · rw [if_neg h, if_neg h, if_neg h]
    refine Ev.same (G := fun _ => some ([], [], 1)) (fun k => ?_) (Ev.pure _)
    by_cases c : e < 0
    · rw [if_pos c]
    · rw [if_neg c, if_pos (by omega)]
theorem same_at (l : List Int) (hl : l.length ≤ 4000000000) (d : Nat) : ∀ i : Nat, i + d = l.length → Ev (fun k => selvagelaw05_same.l0 k l l (i : Int)) true := by
  induction d with
  | zero =>
    intro i h
    exact Ev.step (f := fun _ => some true) (fun k => by rw [selvagelaw05_same.l0, if_neg (by omega)]) (Ev.pure _)
  | succ d ih =>
    intro i h
    have w1 : wrap64 ((i : Int) + 1) = ((i + 1 : Nat) : Int) := w_add i 1 (by omega)
    refine Ev.step (fun k => ?_) (ih (i + 1) (by omega))
    rw [selvagelaw05_same.l0, w1, if_pos (by omega), if_pos (by omega), if_pos (by omega), if_pos rfl]
theorem same_ev (l : List Int) (hl : l.length ≤ 4000000000) : Ev (fun k => selvagelaw05_same.f k l l) true :=
  Ev.same (fun k => by unfold selvagelaw05_same.f; rw [if_pos rfl]; rfl) (same_at l hl l.length 0 (by omega))
theorem idsX_len (e : Int) (a : List ByteArray) : (idsX e a).length ≤ a.length := by unfold idsX; split <;> simp [nbO_len, kl_len]
theorem idsY_len (e : Int) (a b : List ByteArray) : (idsY e a b).length ≤ b.length := by unfold idsY; split <;> simp [nbO_len, kl_len]
theorem size_sum : ∀ (l : List ByteArray), ∀ x ∈ l, x.size ≤ (l.map (·.size)).sum
  | [], x, h => by cases h
  | y :: l, x, h => by
    rw [List.map_cons, List.sum_cons]
    rcases List.mem_cons.mp h with rfl | h
    · omega
    · have := size_sum l x h; omega
theorem ii_l1 (b : List ByteArray) (x y n m : List Int) (er : Option Int) (f : Int) (hb : b.length ≤ 4000000000) (H : Ev (fun k => (selvagelaw05_same.f k x n).bind fun t280 => (if t280 = true then ((selvagelaw05_same.f k y m).bind fun t281 => (if t281 = true then ((selvagelaw05_num.f er).bind fun t282 => (if t282 = f then ((selvagelaw05_sure.f k).bind fun t283 => (some t283)) else (some false))) else (some false))) else (some false))) true) (d : Nat) :
    ∀ i : Nat, i + d = b.length → Ev (fun k => selvagelaw05_InternIds.l1 k b b x y er n m f (i : Int)) true := by
  induction d with
  | zero =>
    intro i h
    exact Ev.step (fun k => by rw [selvagelaw05_InternIds.l1, if_neg (by omega)]) H
  | succ d ih =>
    intro i h
    have w1 : wrap64 ((i : Int) + 1) = ((i + 1 : Nat) : Int) := w_add i 1 (by omega)
    refine Ev.step (fun k => ?_) (ih (i + 1) (by omega))
    rw [selvagelaw05_InternIds.l1, w1, if_pos (by omega), if_pos (by omega), if_pos (by omega), if_pos rfl]
theorem ii_l0 (a b : List ByteArray) (x y n m : List Int) (er : Option Int) (f : Int) (ha : a.length ≤ 4000000000) (hb : b.length ≤ 4000000000) (H : Ev (fun k => (selvagelaw05_same.f k x n).bind fun t280 => (if t280 = true then ((selvagelaw05_same.f k y m).bind fun t281 => (if t281 = true then ((selvagelaw05_num.f er).bind fun t282 => (if t282 = f then ((selvagelaw05_sure.f k).bind fun t283 => (some t283)) else (some false))) else (some false))) else (some false))) true) (d : Nat) :
    ∀ i : Nat, i + d = a.length → Ev (fun k => selvagelaw05_InternIds.l0 k a b a b x y er n m f (i : Int)) true := by
  induction d with
  | zero =>
    intro i h
    exact Ev.step (fun k => by rw [selvagelaw05_InternIds.l0, if_neg (by omega)]; rfl) (ii_l1 b x y n m er f hb H b.length 0 (by omega))
  | succ d ih =>
    intro i h
    have w1 : wrap64 ((i : Int) + 1) = ((i + 1 : Nat) : Int) := w_add i 1 (by omega)
    refine Ev.step (fun k => ?_) (ih (i + 1) (by omega))
    rw [selvagelaw05_InternIds.l0, w1, if_pos (by omega), if_pos (by omega), if_pos (by omega), if_pos rfl]
theorem InternIds : ∀ (a0 a1 : List ByteArray) (a2 : Int), (Lit.int .i64 a2).wf = true → ((a0.map (·.size)).sum + a0.length + 1) + ((a1.map (·.size)).sum + a1.length + 1) + 1 ≤ 1048576 → ∃ k, selvagelaw05_InternIds.f k a0 a1 a2 = some true := by
  intro a0 a1 a2 _ hb
  have h0 : small a0 := fun x hx => by have := size_sum a0 x hx; omega
  have h1 : small a1 := fun x hx => by have := size_sum a1 x hx; omega
  have x1 := idsX_len a2 a0
  have y1 := idsY_len a2 a0 a1
  have H : Ev (fun k => (selvagelaw05_same.f k (idsX a2 a0) (idsX a2 a0)).bind fun t280 => (if t280 = true then ((selvagelaw05_same.f k (idsY a2 a0 a1) (idsY a2 a0 a1)).bind fun t281 => (if t281 = true then ((selvagelaw05_num.f (idsE a2)).bind fun t282 => (if t282 = (idsE a2).getD 0 then ((selvagelaw05_sure.f k).bind fun t283 => (some t283)) else (some false))) else (some false))) else (some false))) true := by
    refine Ev.bind (same_ev _ (by omega)) (Ev.same (fun k => by rw [if_pos rfl]) (Ev.bind (same_ev _ (by omega)) (Ev.same (G := fun k => (selvagelaw05_sure.f k).bind fun t283 => (some t283)) (fun k => ?_) (Ev.bind ev_sure (Ev.pure _)))))
    rw [if_pos rfl]
    show (some ((idsE a2).getD 0)).bind _ = _
    rw [Option.bind_some, if_pos rfl]
  refine Ev.get (F := fun k => selvagelaw05_InternIds.f k a0 a1 a2) (Ev.same (G := fun k => (intern_Ids.f k a0 a1 a2).bind fun bt262 => ((selvageref05_Ids.f k a0 a1 a2).bind fun bt269 => (selvagelaw05_InternIds.l0 k a0 a1 a0 a1 bt262.1 bt262.2.1 bt262.2.2 bt269.1 bt269.2.1 bt269.2.2 0))) (fun k => ?_) (Ev.bind (p_ids a2 a0 a1 h0 h1 (by omega) (by omega)) (Ev.bind (r_ids a2 a0 a1 h0 h1 (by omega) (by omega)) (ii_l0 a0 a1 _ _ _ _ _ _ (by omega) (by omega) H a0.length 0 (by omega)))))
  unfold selvagelaw05_InternIds.f
  rw [if_pos (by simp; omega), Option.bind_some, if_pos (by simp; omega), Option.bind_some]
  rfl
theorem own_loop (a b : List ByteArray) (e : Int) (y : List Int) (ha : small a) (hb : small b) (h1 : a.length ≤ 1000000000) (h2 : b.length ≤ 1000000000) (hy : y = idsY e a b) (d : Nat) : ∀ (i : Nat) (x : List Int), i + d = x.length → x.length ≤ 1000000000 →
    Ev (fun k => selvagelaw05_InternOwn.l0 k a b e x y (i : Int)) true := by
  have x1 := idsX_len e a
  have y1 := idsY_len e a b
  induction d with
  | zero =>
    intro i x h hx
    refine Ev.step (f := fun k => (selvageref05_Ids.f k a b e).bind fun bt237 => ((intern_Ids.f k a b e).bind fun bt244 => ((selvagelaw05_same.f k y bt237.2.1).bind fun t251 => (if t251 = true then ((selvagelaw05_same.f k bt244.1 bt237.1).bind fun t252 => (if t252 = true then ((selvagelaw05_same.f k bt244.2.1 bt237.2.1).bind fun t253 => (if t253 = true then ((selvagelaw05_sure.f k).bind fun t255 => (some t255)) else (some false))) else (some false))) else (some false))))) (fun k => ?_) ?_
    · rw [selvagelaw05_InternOwn.l0, if_neg (by omega), Option.bind_some, if_pos (by simp; omega), Option.bind_some]
      have w1 : wrap64 (((x ++ [-8, -8, -8]).length : Int) - 1) = ((x.length + 2 : Nat) : Int) := by rw [List.length_append, w64' (by simp; omega) (by simp; omega)]; simp; omega
      rw [w1]
      have hr : rd (x ++ [-8, -8, -8]) ((x.length + 2 : Nat) : Int) = -8 := by
        unfold rd
        rw [Int.toNat_natCast]
        simp
      have hl : ((x.length + 2 : Nat) : Int) < ((x ++ [-8, -8, -8]).length : Int) := by simp
      have h0 : (0 : Int) ≤ ((x.length + 2 : Nat) : Int) := by omega
      simp only [if_pos h0, if_pos hl, if_pos hr]
    · subst hy
      refine Ev.bind (r_ids e a b ha hb h1 h2) (Ev.bind (p_ids e a b ha hb h1 h2) (Ev.bind (same_ev (idsY e a b) (by omega)) (Ev.same (fun k => by rw [if_pos rfl]) (Ev.bind (same_ev (idsX e a) (by omega)) (Ev.same (fun k => by rw [if_pos rfl]) (Ev.bind (same_ev (idsY e a b) (by omega)) (Ev.same (fun k => by rw [if_pos rfl]) (Ev.bind ev_sure (Ev.pure _)))))))))
  | succ d ih =>
    intro i x h hx
    have w1 : wrap64 ((i : Int) + 1) = ((i + 1 : Nat) : Int) := w_add i 1 (by omega)
    refine Ev.step (fun k => ?_) (ih (i + 1) (x.set i (-7)) (by rw [List.length_set]; omega) (by rw [List.length_set]; omega))
    rw [selvagelaw05_InternOwn.l0, w1, if_pos (by omega), if_pos (by omega), Int.toNat_natCast]
theorem InternOwn : ∀ (a0 a1 : List ByteArray) (a2 : Int), (Lit.int .i64 a2).wf = true → ((a0.map (·.size)).sum + a0.length + 1) + ((a1.map (·.size)).sum + a1.length + 1) + 1 ≤ 1048576 → ∃ k, selvagelaw05_InternOwn.f k a0 a1 a2 = some true := by
  intro a0 a1 a2 _ hb
  have h0 : small a0 := fun x hx => by have := size_sum a0 x hx; omega
  have h1 : small a1 := fun x hx => by have := size_sum a1 x hx; omega
  have x1 := idsX_len a2 a0
  exact Ev.get (F := fun k => selvagelaw05_InternOwn.f k a0 a1 a2) (Ev.bind (p_ids a2 a0 a1 h0 h1 (by omega) (by omega)) (own_loop a0 a1 a2 (idsY a2 a0 a1) h0 h1 (by omega) (by omega) rfl (idsX a2 a0).length 0 (idsX a2 a0) (by omega) (by omega)))
end Go.Proofs.YtpfhgaaphaalgaaDoor.Pure
