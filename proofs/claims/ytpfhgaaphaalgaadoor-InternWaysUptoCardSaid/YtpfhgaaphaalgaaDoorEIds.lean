/-
  intern.Ids and its closure (Ids$1), which numbers a text's lines by a map that both calls share; walked by hand over the printed contract of intern.Key.
-/
import Derived.Test.YtpfhgaaphaalgaaDoorPp1
import Derived.Test.YtpfhgaaphaalgaaDoorEPure
import Derived.OneCell
import Derived.Maps.OwnSet
import Derived.Maps.AppendAt
namespace Go.Proofs.YtpfhgaaphaalgaaDoor.Ext
open Go.RowKit Go.WideMaps Go.Maps Go.Proofs.YtpfhgaaphaalgaaDoor.Pp Go.Proofs.YtpfhgaaphaalgaaDoorW.PrintWords Go.Proofs.YtpfhgaaphaalgaaDoorW.PrintLast Go.Proofs.YtpfhgaaphaalgaaDoorW.PrintMore
abbrev DU := DataW Unit
def keyL (q : ByteArray) : List UInt8 := q.data.toList
structure MapIs (D : DU) (ks : List (List UInt8)) : Prop where
  size : Maps.size D = ks.length
  has : ∀ s, Maps.has D (.string s) = ks.contains s
  at_ : ∀ s z, s ∈ ks → D.atKey (.string s) z = .lit (.int .i64 (ks.idxOf s : Int))
theorem MapIs.nil : MapIs (.map []) [] := ⟨rfl, fun _ => rfl, fun s z h => by cases h⟩
theorem MapIs.snoc {D : DU} {ks : List (List UInt8)} (h : MapIs D ks) (ht : Tidy D) (s : List UInt8) (hk : WideAt.IsKeyLit (.string s)) (hs : ks.contains s = false) : MapIs (D.put (.string s) (.lit (.int .i64 (ks.length : Int)))) (ks ++ [s]) := by
  have hn : s ∉ ks := by simpa using hs
  refine ⟨?_, fun t => ?_, fun t z hm => ?_⟩
  · rw [size_put ht, h.has, if_neg (by rw [hs]; simp), h.size, List.length_append, List.length_singleton]
  · by_cases e : t = s
    · subst e; rw [has_put_same ht.isMap hk]; simp
    · rw [has_put_other (by simpa using e), h.has]
      simp [e]
  · by_cases e : t = s
    · subst e
      rw [atKey_put_same ht.isMap hk, List.idxOf_append, if_neg hn]
      simp
    · rw [atKey_put_other (by simpa using e)]
      have hm' : t ∈ ks := by
        rcases List.mem_append.mp hm with h1 | h1
        · exact h1
        · simp at h1; exact absurd h1 e
      rw [h.at_ t z hm', List.idxOf_append, if_pos hm']
def numF (k : Nat) (e : Int) : List ByteArray → List (List UInt8) → List Int → Option (List Int × List (List UInt8))
  | [], ks, out => some (out, ks)
  | s :: t, ks, out => (intern_Key.f k s e).bind fun q =>
    if q.size ≤ 9223372036854775807 ∧ ks.length < 17592186044416 ∧ out.length < 17592186044416 then
      numF k e t (if ks.contains (keyL q) = true then ks else ks ++ [keyL q]) (out ++ [(ks.idxOf (keyL q) : Int)]) else none
theorem numF.mono (k : Nat) (e : Int) : ∀ (l : List ByteArray) (ks : List (List UInt8)) (out : List Int), LeO (numF k e l ks out) (numF (k + 1) e l ks out)
  | [], _, _ => LeO.refl _
  | _ :: t, _, _ => LeO.bind (intern_Key.mono _ _ _) (fun _ => LeO.ite (numF.mono k e t _ _) (LeO.refl _))
structure NumIn (wB : World) (bE bM B : Nat) (e : Int) (ks : List (List UInt8)) (w : World) : Prop where
  below : Below wB.heap.size wB w
  old : wB.heap.size ≤ B
  e : w.heap[bE]? = some (.cells #[.int .i64 e] 3 (0, 0))
  m : w.heap[bM]? = some (.cells #[.map (some B)] 44 (0, 0))
  map : ∃ D : DU, w.ownsMap Tryd.prog 9 (plainElem Tryd.prog 3) B ks.length D ∧ MapIs D ks
theorem NumIn.then {wB : World} {bE bM B : Nat} {e : Int} {ks : List (List UInt8)} {w w' : World} (h : NumIn wB bE bM B e ks w) (k : Below w.heap.size w w') : NumIn wB bE bM B e ks w' := by
  obtain ⟨D, h1, h2⟩ := h.map
  exact ⟨below_step h.below k, h.old, blk_below h.e k, blk_below h.m k, D, h1.kept (grown_of_below k none) (by simp), h2⟩
theorem NumIn.grown {wB : World} {bE bM B : Nat} {e : Int} {ks : List (List UInt8)} {w w' : World} {v : Value} (h : NumIn wB bE bM B e ks w) (g : w.grownBy w' v.ownBlock) (hb : Below wB.heap.size wB w') (ho : ∀ k, v.ownBlock = some k → k ≠ bE ∧ k ≠ bM ∧ k ≠ B) : NumIn wB bE bM B e ks w' := by
  obtain ⟨D, h1, h2⟩ := h.map
  have q : ∀ b, (∀ k, v.ownBlock = some k → k ≠ b) → some b ≠ v.ownBlock := fun b hb hx => hb b hx.symm rfl
  exact ⟨hb, h.old, blk_grown h.e g (q bE fun k hk => (ho k hk).1), blk_grown h.m g (q bM fun k hk => (ho k hk).2.1), D, h1.kept g (q B fun k hk => (ho k hk).2.2), h2⟩
theorem NumIn.put {wB : World} {bE bM B : Nat} {e : Int} {ks : List (List UInt8)} {w w' : World} (h : NumIn wB bE bM B e ks w) (s : List UInt8) (hs : ks.contains s = false) (hk : WideAt.IsKeyLit (.string s)) (D : DU) (hD : MapIs D ks) (ht : Tidy D)
    (h1 : w'.ownsMap Tryd.prog 9 (plainElem Tryd.prog 3) B (ks.length + 1) (D.put (.string s) (.lit (.int .i64 (ks.length : Int))))) (g : w.grownBy w' (some B)) : NumIn wB bE bM B e (ks ++ [s]) w' := by
  have hB : ∃ es c, w.heap[B]? = some (.map es c) := by
    obtain ⟨D', ⟨es, c, h2, _⟩, _⟩ := h.map
    exact ⟨es, c, h2⟩
  obtain ⟨es, c, hB⟩ := hB
  have n1 : some bE ≠ some B := by intro x; cases x; have := h.e; rw [hB] at this; cases this
  have n2 : some bM ≠ some B := by intro x; cases x; have := h.m; rw [hB] at this; cases this
  refine ⟨h.below.grown g h.below.size (fun k hk => by cases hk; exact h.old), h.old, blk_grown h.e g n1, blk_grown h.m g n2, _, ?_, hD.snoc ht s hk hs⟩
  rw [List.length_append, List.length_singleton]
  exact h1
theorem NumIn.blocks {wB : World} {bE bM B : Nat} {e : Int} {ks : List (List UInt8)} {w : World} (h : NumIn wB bE bM B e ks w) : bE < w.heap.size ∧ bM < w.heap.size ∧ B < w.heap.size := by
  obtain ⟨D, h1, _⟩ := h.map
  exact ⟨blk_lt h.e, blk_lt h.m, h1.lt⟩
theorem grown_then {a b c : World} {row row' : Option Nat} (h : a.grownBy b row) (k : b.grownBy c row') (hr : ∀ j, row' = some j → a.heap.size ≤ j ∨ row = some j) : a.grownBy c row :=
  ⟨k.os.trans h.os, k.tape.trans h.tape, k.output.trans h.output, Nat.le_trans h.size k.size, fun i hi hne => (k.block i (Nat.lt_of_lt_of_le hi h.size) (fun e => by
    rcases hr i e.symm with h1 | h1
    · omega
    · exact hne h1.symm)).trans (h.block i hi hne)⟩
theorem zeroInt (w : World) : (zeroValue 3).run Tryd.prog w = .ok (.int .i64 0) w := by kernel_rfl
theorem drop_at {α : Type} (l : List α) (d : α) (i : Nat) (h : i < l.length) : l.drop i = l.getD i d :: l.drop (i + 1) := by
  rw [List.getD_eq_getElem?_getD, List.getElem?_eq_getElem h]
  exact List.drop_eq_getElem_cons h
set_option maxHeartbeats 8000000 in
set_option maxRecDepth 100000 in
theorem number.calls (k bE bM B : Nat) (e : Int) (A0 : Option Addr) (c0 : Nat) (l0 : List ByteArray) (ks kr : List (List UInt8)) (r : List Int) (wB w : World)
    (hI : NumIn wB bE bM B e ks w) (hr0 : Kd.C Kd.string wB A0 l0.length l0) (hlen : l0.length ≤ 9223372036854775807) (h : numF k e l0 ks [] = some (r, kr)) :
    Calls Tryd.prog 27 #[.slice A0 l0.length c0, .pointer (some ⟨bE, 0, none⟩), .pointer (some ⟨bM, 0, none⟩)] w
      fun x w' => ∃ v : Value, x = .returned v ∧ Kd.R (Kd.int .i64) 3 w' wB.heap.size (fun k => w.heap.size ≤ k) v r ∧ NumIn wB bE bM B e kr w' ∧ w.grownBy w' (some B) := by
  have hB := hI.blocks
  have HN := Aside0.mk hB
  have HI := Aside0.mk hI
  have HR0 := Aside0.mk hr0
  have H0 := Aside0.mk h
  have KL := Maps.string_keyed (P := Tryd.prog) Tryd.underlying9
  clear h hI hr0 hB
  go_enter Tryd.func27, Tryd.ntmps27
  go_wp2
  go_loopg [5, 7, 8, 9, 10, 13] (l0.length + 1) (fun kq v5 v7 v8 v9 v10 v13 w' => ∃ (i : Nat) (out : List Int) (kn : List (List UInt8)), v13 = .int .i64 (i : Int) ∧ Aside0 (i + kq = l0.length + 1 ∧ i ≤ l0.length) ∧ Aside0 (numF k e (l0.drop i) kn out = some (r, kr)) ∧ Aside0 (NumIn wB bE bM B e kn w') ∧ Aside0 (Kd.R (Kd.int .i64) 3 w' wB.heap.size (fun k => w.heap.size ≤ k) v5 out) ∧ Aside0 (w.grownBy w' (some B)))
  case atStart => exact ⟨0, [], ks, rfl, ⟨by omega⟩, H0, HI, ⟨Kd.R_nil _ _ _ _ _⟩, ⟨World.grownBy.refl _ _⟩⟩
  case round =>
    clear HI H0
    obtain ⟨i, out, kn, rfl, HK, H, HI, HO, HG⟩ := hrel
    by_cases hi : i < l0.length
    · have p1 : 0 ≤ (i : Int) := by omega
      have q1 : (i : Int) < (l0.length : Int) := by omega
      have H1 := H.out
      rw [drop_at l0 ByteArray.empty i hi] at H1
      simp only [numF] at H1
      obtain ⟨q, hq, hn⟩ := Option.bind_eq_some_iff.mp H1
      split at hn
      case isFalse => cases hn
      rename_i hlim
      rw [← Pure.rd_nat] at hq
      have HQ := Aside0.mk hq
      have HLIM := Aside0.mk hlim
      have HKEY : keyOf Tryd.prog 9 (.string q) = some (.string (keyL q)) := keyOf_string_mk Tryd.underlying9 (by have := hlim.1; unfold maxLen; omega)
      have HNX := Aside0.mk hn
      clear hn H1 H hq hlim
      obtain ⟨ad, e1, hx0⟩ := Kd.at_string (Kd.C_below HR0.out HI.out.below) (i : Int) p1 q1
      cases e1
      simp only [Int.toNat_natCast] at hx0
      have c1 : decide ((i : Int) < (l0.length : Int)) = true := decide_eq_true q1
      have cE := cell_of_one HI.out.e
      cases hc : kn.contains (keyL q) with
      | true =>
        have hmem : keyL q ∈ kn := by simpa using hc
        have HC := Aside0.mk hc
        have HMEM := Aside0.mk hmem
        clear hc hmem
        go_wp2_with (first | (go_at_call 8; (with_reducible refine (intern_Key.calls k (rdOf ByteArray.empty l0 (i : Int)) e q _ HQ.out).mono ?_); rintro x w1 ⟨rfl, hb⟩; have HI1 := Aside0.mk (HI.out.then hb); have HO1 := Aside0.mk (Kd.R_below HO.out hb); have HG1 := Aside0.mk (grown_then HG.out (grown_of_below hb none) (fun j hj => by cases hj)); clear HI HO HG hb; have cE1 := cell_of_one HI1.out.e; have cM1 := cell_of_one HI1.out.m; obtain ⟨D, hown, hM⟩ := HI1.out.map; have HM := Aside0.mk hM; clear hM; have hhas : Maps.has D (.string (keyL q)) = true := by rw [HM.out.has]; exact HC.out) | (at_lookup; refine wpList_lookup_own_ok_int _ rfl _ _ 44 rfl 9 3 .i64 KL Tryd.underlying44 Tryd.underlying3 (zeroInt _) B kn.length D rfl hown _ (.string (keyL q)) rfl HKEY ?_; intro c hat hwc; have HAT := Aside0.mk hat; clear hat hwc) | ((with_reducible refine gate_builtin (b := .append) (xs := #[.tmp 33, .tmp 35]) rfl ?_); at_builtin; refine Kd.R_append (Kd.int .i64) (w0 := wB) wB.heap.size rfl (.tmp 33) (.tmp 35) 27 3 (.int .i64 0) 8 rfl Tryd.underlying27 info3 rfl (by decide) (by omega) u5 out c [.int .i64 c] (fun k => w.heap.size ≤ k) (fun _ => False) rfl rfl ?aP (fun _ hk => hk.elim) ?aF ?aO ?aB ?aS ?aL ?_; (case aP => exact rfl); (case aB => exact HI1.out.below); (case aF => exact (fun k_ hk_ => Nat.le_trans HG1.out.size hk_)); (case aO => exact HO1.out); (case aS => exact HI1.out.below.size); (case aL => have := HLIM.out; omega); intro v2 w3 ho hb hg hat; have HO3 := Aside0.mk ho; have HB3 := Aside0.mk hb; have HG3 := Aside0.mk hg; clear ho hb hg hat))
        have hcx : c = (kn.idxOf (keyL q) : Int) := by
          have h1 := HAT.out
          rw [HM.out.at_ _ _ HMEM.out] at h1
          injection h1 with h1
          injection h1 with _ h1
          exact h1.symm
        have HCX := Aside0.mk hcx
        clear hcx
        go_roundg (gk - 1)
        case measure => have := HK.out; omega
        case rel => exact ⟨i + 1, out ++ [c], kn, (by first | go_num | (simp; done)), ⟨by have := HK.out; omega⟩, ⟨by have := HNX.out; rw [if_pos HC.out] at this; rw [HCX.out]; exact this⟩, ⟨HI1.out.grown HG3.out HB3.out (fun k_ hk_ => by have h1 := HO1.out.1 k_ hk_; have h2 := HN.out; omega)⟩, HO3, ⟨grown_then HG1.out HG3.out (fun j_ hj_ => .inl (HO1.out.1 j_ hj_))⟩⟩
      | false =>
        have hmem : keyL q ∉ kn := by simpa using hc
        have HC := Aside0.mk hc
        have HMEM := Aside0.mk hmem
        clear hc hmem
        go_wp2_with (first | (go_at_call 8; (with_reducible refine (intern_Key.calls k (rdOf ByteArray.empty l0 (i : Int)) e q _ HQ.out).mono ?_); rintro x w1 ⟨rfl, hb⟩; have HI1 := Aside0.mk (HI.out.then hb); have HO1 := Aside0.mk (Kd.R_below HO.out hb); have HG1 := Aside0.mk (grown_then HG.out (grown_of_below hb none) (fun j hj => by cases hj)); clear HI HO HG hb; have cE1 := cell_of_one HI1.out.e; have cM1 := cell_of_one HI1.out.m; obtain ⟨D, hown, hM⟩ := HI1.out.map; have HM := Aside0.mk hM; clear hM; have hhas : Maps.has D (.string (keyL q)) = false := by rw [HM.out.has]; exact HC.out) | (at_lookup; refine wpList_lookup_own_ok_int _ rfl _ _ 44 rfl 9 3 .i64 KL Tryd.underlying44 Tryd.underlying3 (zeroInt _) B kn.length D rfl hown _ (.string (keyL q)) rfl HKEY ?_; intro c hat hwc; have HAT := Aside0.mk hat; clear hat hwc) | (at_len; refine wpList_len_own _ rfl _ 44 rfl 9 3 Tryd.underlying44 _ B kn.length D rfl hown ?_) | (at_mapUpdate; refine wpList_mapUpdate_own _ rfl _ _ _ 44 rfl 9 3 KL Tryd.underlying44 _ B kn.length D rfl hown (by have := HLIM.out; unfold maxLen; omega) _ _ (.string (keyL q)) rfl rfl HKEY _ [] (plainElem_int Tryd.underlying3 (WalkArith.wf_i64 (by have h1_ := HLIM.out; have h2_ := HM.out.size; omega))) ?_; intro w2 hown2 hgrow2; have HI2 := Aside0.mk (HI1.out.put (keyL q) HC.out trivial D HM.out (hown.tidy KL) (by have h2_ := HM.out.size; rw [h2_] at hown2; exact hown2) hgrow2); have HO2 := Aside0.mk (Kd.R_grown HO1.out hgrow2 (fun k_ hk_ => by have h3_ := HN.out; intro h4_; cases h4_; omega)); have HG2 := Aside0.mk (grown_then HG1.out hgrow2 (fun j_ hj_ => by cases hj_; exact .inr rfl)); clear hown2 hgrow2 hown) | ((with_reducible refine gate_builtin (b := .append) (xs := #[.tmp 33, .tmp 35]) rfl ?_); at_builtin; refine Kd.R_append (Kd.int .i64) (w0 := wB) wB.heap.size rfl (.tmp 33) (.tmp 35) 27 3 (.int .i64 0) 8 rfl Tryd.underlying27 info3 rfl (by decide) (by omega) u5 out (Maps.size D : Int) [.int .i64 (Maps.size D : Int)] (fun k => w.heap.size ≤ k) (fun _ => False) rfl rfl ?aP (fun _ hk => hk.elim) ?aF ?aO ?aB ?aS ?aL ?_; (case aP => exact rfl); (case aB => exact HI2.out.below); (case aF => exact (fun k_ hk_ => Nat.le_trans HG2.out.size hk_)); (case aO => exact HO2.out); (case aS => exact HI2.out.below.size); (case aL => have := HLIM.out; omega); intro v2 w3 ho hb hg hat; have HO3 := Aside0.mk ho; have HB3 := Aside0.mk hb; have HG3 := Aside0.mk hg; clear ho hb hg hat))
        have hcx : (Maps.size D : Int) = (kn.idxOf (keyL q) : Int) := by rw [HM.out.size, List.idxOf_eq_length HMEM.out]
        have HCX := Aside0.mk hcx
        clear hcx
        go_roundg (gk - 1)
        case measure => have := HK.out; omega
        case rel => exact ⟨i + 1, out ++ [(Maps.size D : Int)], kn ++ [keyL q], (by first | go_num | (simp; done)), ⟨by have := HK.out; omega⟩, ⟨by have := HNX.out; rw [if_neg (by rw [HC.out]; simp)] at this; rw [HCX.out]; exact this⟩, ⟨HI2.out.grown HG3.out HB3.out (fun k_ hk_ => by have h1 := HO2.out.1 k_ hk_; have h2 := HN.out; omega)⟩, HO3, ⟨grown_then HG2.out HG3.out (fun j_ hj_ => .inl (HO2.out.1 j_ hj_))⟩⟩
    · have hd : l0.drop i = [] := List.drop_of_length_le (by omega)
      have h1 := H.out
      rw [hd] at h1
      simp only [numF, Option.some.injEq, Prod.mk.injEq] at h1
      obtain ⟨rfl, rfl⟩ := h1
      have c1 : decide ((i : Int) < (l0.length : Int)) = false := decide_eq_false (by omega)
      go_wp2
      go_ret
      exact ⟨_, rfl, HO.out, HI.out, HG.out⟩
def intern_Ids.f (k : Nat) (l0 l1 : List ByteArray) (a2 : Int) : Option (List Int × List Int × Option Int) :=
  if a2 < 0 then some ([], [], some 1) else if 15 < a2 then some ([], [], some 1) else
  if l0.length ≤ 9223372036854775807 ∧ l1.length ≤ 9223372036854775807 then
    (numF k a2 l0 [] []).bind fun x => (numF k a2 l1 x.2 []).bind fun y => some (x.1, y.1, none) else none
theorem intern_Ids.mono : ∀ a0 a1 a2 k, LeO (intern_Ids.f k a0 a1 a2) (intern_Ids.f (k + 1) a0 a1 a2) := by
  intro a0 a1 a2 k
  unfold intern_Ids.f
  exact LeO.ite (LeO.refl _) (LeO.ite (LeO.refl _) (LeO.ite (LeO.bind (numF.mono _ _ _ _ _) (fun _ => LeO.bind (numF.mono _ _ _ _ _) (fun _ => LeO.refl _))) (LeO.none _)))
set_option maxHeartbeats 8000000 in
set_option maxRecDepth 100000 in
theorem intern_Ids.calls (k : Nat) (A0 : Option Addr) (c0 : Nat) (l0 : List ByteArray) (A1 : Option Addr) (c1 : Nat) (l1 : List ByteArray) (a2 : Int) (r1 r2 : List Int) (r3 : Option Int) (w : World)
    (hr0 : Kd.C Kd.string w A0 l0.length l0) (hc0 : l0.length ≤ c0) (hr1 : Kd.C Kd.string w A1 l1.length l1) (hc1 : l1.length ≤ c1) (h : intern_Ids.f k l0 l1 a2 = some (r1, r2, r3)) :
    Calls Tryd.prog 13 #[.slice A0 l0.length c0, .slice A1 l1.length c1, .int .i64 a2] w fun e w' => ∃ v0_ v1_ : Value, e = .returned (.tuple #[v0_, v1_, errW r3]) ∧
      Kd.R (Kd.int .i64) 3 w' w.heap.size (fun k_ => some k_ ≠ v1_.ownBlock) v0_ r1 ∧ Kd.R (Kd.int .i64) 3 w' w.heap.size (fun k_ => some k_ ≠ v0_.ownBlock) v1_ r2 ∧ Below w.heap.size w w' := by
  have _ := hc0
  have _ := hc1
  unfold intern_Ids.f at h
  have HR0 := Aside0.mk hr0
  have HR1 := Aside0.mk hr1
  clear hr0 hr1
  by_cases d1 : a2 < 0
  · rw [if_pos d1] at h
    simp only [Option.some.injEq, Prod.mk.injEq] at h
    obtain ⟨rfl, rfl, rfl⟩ := h
    have d1b : decide (a2 < 0) = true := decide_eq_true d1
    clear d1
    go_enter Tryd.func13, Tryd.ntmps13
    go_wp2
    go_ret3
    exact ⟨_, _, rfl, Kd.R_nil _ _ _ _ _, Kd.R_nil _ _ _ _ _, by repeat (first | exact Below.refl _ _ | apply below_alloc)⟩
  · rw [if_neg d1] at h
    have d1b : decide (a2 < 0) = false := decide_eq_false d1
    by_cases d2 : 15 < a2
    · rw [if_pos d2] at h
      simp only [Option.some.injEq, Prod.mk.injEq] at h
      obtain ⟨rfl, rfl, rfl⟩ := h
      have d2b : decide (15 < a2) = true := decide_eq_true d2
      clear d1 d2
      go_enter Tryd.func13, Tryd.ntmps13
      go_wp2
      go_ret3
      exact ⟨_, _, rfl, Kd.R_nil _ _ _ _ _, Kd.R_nil _ _ _ _ _, by repeat (first | exact Below.refl _ _ | apply below_alloc)⟩
    · rw [if_neg d2] at h
      have d2b : decide (15 < a2) = false := decide_eq_false d2
      clear d1 d2
      split at h
      case isFalse => cases h
      rename_i hlen
      obtain ⟨⟨x, kx⟩, hx, h⟩ := Option.bind_eq_some_iff.mp h
      obtain ⟨⟨y, ky⟩, hy, h⟩ := Option.bind_eq_some_iff.mp h
      simp only [Option.some.injEq, Prod.mk.injEq] at h
      obtain ⟨rfl, rfl, rfl⟩ := h
      have HX := Aside0.mk hx
      have HY := Aside0.mk hy
      have HL := Aside0.mk hlen
      clear hx hy hlen
      have hmm := @run_makeMap Tryd.prog
      have hmf : ∀ (fn : Fn) (first cap : Array Value) (w : World), (Instr.makeFunc fn first cap).run Tryd.prog w = .ok (.func fn first cap) w := fun _ _ _ _ => rfl
      go_enter Tryd.func13, Tryd.ntmps13
      go_upto_region 5 with (fail)
      have HI0 : Aside0 (NumIn w w.heap.size (w.heap.size + 1 + 1) (w.heap.size + 1) a2 [] (((w.alloc (Obj.cells #[Value.int .i64 a2] 3)).alloc (Obj.map #[] 0)).alloc (Obj.cells #[Value.map (some (w.heap.size + 1))] 44))) := ⟨by
        have s1 : (w.alloc (Obj.cells #[Value.int .i64 a2] 3)).heap.size = w.heap.size + 1 := by simp
        have s2 : ((w.alloc (Obj.cells #[Value.int .i64 a2] 3)).alloc (Obj.map #[] 0)).heap.size = w.heap.size + 1 + 1 := by simp
        refine ⟨below_alloc (below_alloc (below_alloc (Below.refl _ _) _) _) _, by omega, blk_alloc (blk_alloc (blk_new _ _) _) _, ?_, .map [], ?_, MapIs.nil⟩
        · have := blk_new ((w.alloc (Obj.cells #[Value.int .i64 a2] 3)).alloc (Obj.map #[] 0)) (Obj.cells #[Value.map (some (w.heap.size + 1))] 44)
          rw [s2] at this
          exact this
        · have := World.ownsMap_made (H := Unit) (w.alloc (Obj.cells #[Value.int .i64 a2] 3)) Tryd.prog 9 (plainElem Tryd.prog 3)
          rw [s1] at this
          exact this.alloc _⟩
      generalize (((w.alloc (Obj.cells #[Value.int .i64 a2] 3)).alloc (Obj.map #[] 0)).alloc (Obj.cells #[Value.map (some (w.heap.size + 1))] 44)) = W at HI0 ⊢
      clear hmm hmf
      go_upto_region 6 with (go_at_call 27; (with_reducible refine (number.calls k _ _ _ a2 A0 c0 l0 [] kx x w W HI0.out HR0.out HL.out.1 HX.out).mono ?_); rintro e w1 ⟨v, rfl, ho, hi, hg⟩; have HO1 := Aside0.mk ho; have HI1 := Aside0.mk hi; clear ho hi hg)
      go_wp2_with (go_at_call 27; (with_reducible refine (number.calls k _ _ _ a2 A1 c1 l1 kx ky y w w1 HI1.out HR1.out HL.out.2 HY.out).mono ?_); rintro e w2 ⟨u, rfl, ho, hi, hg⟩; have HO2 := Aside0.mk ho; have HI2 := Aside0.mk hi; have HG2 := Aside0.mk hg; clear ho hi hg)
      go_ret3
      have hlt := Kd.R_lt HO1.out
      have hge := HO2.out.1
      have hB := HI0.out.blocks
      have hbl : ∀ a b : Nat, v.ownBlock = some a → u.ownBlock = some b → a ≠ b := fun a b ha hb => by have := hlt a ha; have := hge b hb; omega
      have HO1' := Kd.R_grown HO1.out HG2.out (fun k_ hk_ => by intro h4_; cases h4_; omega)
      refine ⟨v, u, rfl, ?_, ?_, HI2.out.below⟩
      · exact Kd.R_of_own (h1 := fun _ => rfl) (Kd.own_of_R HO1') (fun k_ hk_ hk2_ => hbl k_ k_ hk_ hk2_.symm rfl)
      · exact Kd.R_of_own (h1 := fun _ => rfl) (Kd.own_of_R HO2.out) (fun k_ hk_ hk2_ => hbl k_ k_ hk2_.symm hk_ rfl)
end Go.Proofs.YtpfhgaaphaalgaaDoor.Ext
