/-
  A region that draws its order, whose operations only read but for the last one, which waits for all the others: one walk in the text's order serves.
-/
import Derived.Deep.Quiet
import Derived.BigQuiet
namespace Go.Proofs.Ytkoagpnoaibdjaa.Ext
open Go
def tailOk (l : List Oper) (last : Oper) : Bool :=
  (List.range l.length).all (fun i => last.after.any fun e => Region.binds .any e && e.on == i) &&
  (List.range l.length).all (fun i => ((l[i]?).map fun o => (o.after.all fun e => !Region.binds .any e || decide (e.on < i)) && (match o.guard with | none => true | some (j, _) => decide (j < l.length))).getD true)
section
variable {P : Program} {C : World → Prop} {l : List Oper} {last : Oper}
theorem tail_last (h : tailOk l last = true) (i : Nat) (hi : i < l.length) : ∃ e ∈ last.after, Region.binds .any e = true ∧ e.on = i := by
  unfold tailOk at h
  rw [Bool.and_eq_true] at h
  have := List.all_eq_true.mp h.1 i (List.mem_range.mpr hi)
  obtain ⟨e, he, hb⟩ := Array.any_eq_true'.1 this
  simp only [Bool.and_eq_true, beq_iff_eq] at hb
  exact ⟨e, he, hb.1, hb.2⟩
theorem tail_back (h : tailOk l last = true) (i : Nat) (o : Oper) (ho : l[i]? = some o) : (∀ e ∈ o.after, Region.binds .any e = true → e.on < i) ∧ (∀ j b, o.guard = some (j, b) → j < l.length) := by
  unfold tailOk at h
  rw [Bool.and_eq_true] at h
  have hi : i < l.length := (List.getElem?_eq_some_iff.1 ho).1
  have := List.all_eq_true.mp h.2 i (List.mem_range.mpr hi)
  rw [ho] at this
  simp only [Option.map_some, Option.getD_some, Bool.and_eq_true] at this
  refine ⟨fun e he hb => ?_, fun j b hg => ?_⟩
  · have h1 := Array.all_eq_true'.1 this.1 e he
    rw [hb] at h1
    simpa using h1
  · have h2 := this.2
    rw [hg] at h2
    simpa using h2
theorem at_l (i : Nat) (hi : i < l.length) : (l ++ [last]).toArray[i]? = l.toArray[i]? := by
  simp [List.getElem?_append_left hi]
theorem at_n : (l ++ [last]).toArray[l.length]? = some last := by simp
theorem yields_l (tmps : Array Value) (j : Nat) (hj : j < l.length) : yielded (l ++ [last]).toArray tmps j = yielded l.toArray tmps j := by
  unfold yielded
  rw [at_l j hj]
theorem wants_l (h : tailOk l last = true) (tmps : Array Value) (i : Nat) (o : Oper) (ho : l[i]? = some o) : Region.wanted o (yielded (l ++ [last]).toArray tmps) = Region.wanted o (yielded l.toArray tmps) := by
  unfold Region.wanted
  cases hg : o.guard with
  | none => rfl
  | some x =>
    obtain ⟨j, b⟩ := x
    simp only
    rw [yields_l tmps j ((tail_back h i o ho).2 j b hg)]
structure Both (l : List Oper) (b b' : Array Bool) : Prop where
  size : b.size = l.length
  size' : b'.size = l.length + 1
  head : ∀ i, i < l.length → b'[i]? = b[i]?
  tail : b'[l.length]? = some false
theorem Both.get {b b' : Array Bool} (h : Both l b b') (i : Nat) (hi : i < l.length) (d : Bool) : b'.getD i d = b.getD i d := by
  rw [Array.getD_eq_getD_getElem?, Array.getD_eq_getD_getElem?, h.head i hi]
theorem Both.set {b b' : Array Bool} (h : Both l b b') (i : Nat) (hi : i < l.length) : Both l (b.setIfInBounds i true) (b'.setIfInBounds i true) := by
  refine ⟨by simp [h.size], by simp [h.size'], fun j hj => ?_, ?_⟩
  · rw [Array.getElem?_setIfInBounds, Array.getElem?_setIfInBounds, h.head j hj, h.size, h.size']
    by_cases e : i = j
    · subst e
      rw [if_pos rfl, if_pos rfl, if_pos (by omega), if_pos (by omega)]
    · rw [if_neg e, if_neg e]
  · rw [Array.getElem?_setIfInBounds, if_neg (by omega), h.tail]
theorem all_listed (h : tailOk l last = true) {b : Array Bool} (hs : b.size = l.length) (hr : Region.ready .any l.toArray b = []) : ∀ i, i < l.length → b.getD i false = true := by
  intro i
  induction i using Nat.strongRecOn with
  | _ i ih =>
    intro hi
    cases hb : b.getD i false with
    | true => rfl
    | false =>
      exfalso
      have ho : l[i]? = some l[i] := List.getElem?_eq_getElem hi
      have : i ∈ Region.ready .any l.toArray b := by
        refine mem_ready.2 ⟨?_, l[i], by simp, fun e he hbd => ?_⟩
        · rw [Array.getD_eq_getD_getElem?, Array.getElem?_eq_getElem (by omega)] at hb ⊢
          exact hb
        · have hlt := (tail_back h i _ ho).1 e he hbd
          exact ih e.on hlt (by omega)
      rw [hr] at this
      cases this
theorem ready_head (h : tailOk l last = true) {b b' : Array Bool} (hb : Both l b b') (i : Nat) (hi : i < l.length) : i ∈ Region.ready .any (l ++ [last]).toArray b' ↔ i ∈ Region.ready .any l.toArray b := by
  rw [mem_ready, mem_ready, hb.get i hi, at_l i hi]
  have ho : l[i]? = some l[i] := List.getElem?_eq_getElem hi
  have hx : l.toArray[i]? = some l[i] := by simp
  constructor
  · rintro ⟨h1, o, h2, h3⟩
    refine ⟨h1, o, h2, fun e he hbd => ?_⟩
    rw [hx] at h2
    obtain rfl := Option.some.inj h2
    rw [← hb.get e.on (by have := (tail_back h i _ ho).1 e he hbd; omega)]
    exact h3 e he hbd
  · rintro ⟨h1, o, h2, h3⟩
    refine ⟨h1, o, h2, fun e he hbd => ?_⟩
    rw [hx] at h2
    obtain rfl := Option.some.inj h2
    rw [hb.get e.on (by have := (tail_back h i _ ho).1 e he hbd; omega)]
    exact h3 e he hbd
theorem ready_lt {b' : Array Bool} {i : Nat} (hi : i ∈ Region.ready .any (l ++ [last]).toArray b') : i < l.length ∨ i = l.length := by
  obtain ⟨_, o, ho, _⟩ := mem_ready.1 hi
  have := (Array.getElem?_eq_some_iff.1 ho).1
  simp at this
  omega
theorem anyQ_tail (h : tailOk l last = true) (hback : ∀ e ∈ last.after, Region.binds .any e = true → e.on < l.length) {Q : Act → Prop} {Q' : Exit → Act → World → Prop}
    (hQ : ∀ a w, C w → Q a → wpOp P (l ++ [last]).toArray Q' l.length (fun a' w' => Q' .normal a' w') a w) :
    ∀ (fuel : Nat) (b b' : Array Bool) (a : Act) (w : World), Both l b b' → C w → wpAnyQ P .any l.toArray C Q fuel b a → wpAny P .any (l ++ [last]).toArray Q' (fuel + 1) b' a w := by
  -- the head is through
  have through : ∀ (m : Nat) (b b' : Array Bool) (a : Act) (w : World), Both l b b' → C w → Region.ready .any l.toArray b = [] → Q a → wpAny P .any (l ++ [last]).toArray Q' (m + 1) b' a w := by
    intro m b b' a w hb hw hr hq
    have hall := all_listed h hb.size hr
    have hn : l.length ∈ Region.ready .any (l ++ [last]).toArray b' := by
      refine mem_ready.2 ⟨?_, last, at_n, fun e he hbd => ?_⟩
      · rw [Array.getD_eq_getD_getElem?, hb.tail]; rfl
      · rw [hb.get e.on (hback e he hbd)]
        exact hall e.on (hback e he hbd)
    refine ⟨fun h0 => ?_, fun i hi => ?_⟩
    · rw [h0] at hn; cases hn
    · have hin : i = l.length := by
        rcases ready_lt hi with h1 | h1
        · exfalso
          obtain ⟨hf, _⟩ := mem_ready.1 hi
          have ht := hall i h1
          rw [hb.get i h1] at hf
          rw [Array.getD_eq_getD_getElem?, Array.getElem?_eq_getElem (by rw [hb.size]; exact h1)] at hf ht
          rw [Option.getD_some] at hf ht
          rw [hf] at ht
          cases ht
        · exact h1
      subst hin
      have hnone : Region.ready .any (l ++ [last]).toArray (b'.setIfInBounds l.length true) = [] := by
        refine List.eq_nil_iff_forall_not_mem.2 fun j hj => ?_
        obtain ⟨hf, _⟩ := mem_ready.1 hj
        rw [Array.getD_eq_getD_getElem?, Array.getElem?_setIfInBounds] at hf
        rcases ready_lt hj with h1 | h1
        · rw [if_neg (by omega), hb.head j h1] at hf
          have ht := hall j h1
          rw [Array.getD_eq_getD_getElem?, Array.getElem?_eq_getElem (by rw [hb.size]; exact h1)] at ht
          rw [Array.getElem?_eq_getElem (by rw [hb.size]; exact h1)] at hf
          rw [Option.getD_some] at hf ht
          rw [hf] at ht
          cases ht
        · rw [if_pos h1.symm, if_pos (by rw [hb.size']; omega), Option.getD_some] at hf
          cases hf
      refine wpOp_mono (fun a'' w'' hq'' => ?_) (hQ a w hw hq)
      cases m with
      | zero => exact ⟨hnone, hq''⟩
      | succ m => exact ⟨fun _ => hq'', fun j hj => by rw [hnone] at hj; cases hj⟩
  intro fuel
  induction fuel with
  | zero => intro b b' a w hb hw hh; exact through 0 b b' a w hb hw hh.1 hh.2
  | succ fuel ih =>
    intro b b' a w hb hw hh
    by_cases hr : Region.ready .any l.toArray b = []
    · exact through (fuel + 1) b b' a w hb hw hr (hh.1 hr)
    · obtain ⟨j, hj⟩ := List.exists_mem_of_ne_nil _ hr
      have hjl : j < l.length := by
        obtain ⟨_, o, ho, _⟩ := mem_ready.1 hj
        have := (Array.getElem?_eq_some_iff.1 ho).1
        simpa using this
      have hj' := (ready_head h hb j hjl).2 hj
      refine ⟨fun h0 => ?_, fun i hi => ?_⟩
      · rw [h0] at hj'; cases hj'
      · have hil : i < l.length := by
          rcases ready_lt hi with h1 | h1
          · exact h1
          · exfalso
            subst h1
            obtain ⟨_, o, ho, hall⟩ := mem_ready.1 hi
            rw [at_n] at ho
            obtain rfl := Option.some.inj ho
            obtain ⟨e, he, hbd, hon⟩ := tail_last h j hjl
            have := hall e he hbd
            rw [hon, hb.get j hjl] at this
            obtain ⟨hf, _⟩ := mem_ready.1 hj
            rw [Array.getD_eq_getD_getElem?, Array.getElem?_eq_getElem (by rw [hb.size]; exact hjl)] at hf this
            rw [Option.getD_some] at hf this
            rw [hf] at this
            cases this
        have hq := hh.2 i ((ready_head h hb i hil).1 hi)
        have ho : l[i]? = some l[i] := List.getElem?_eq_getElem hil
        have hq' : qOp P (l ++ [last]).toArray C i (wpAnyQ P .any l.toArray C Q fuel (b.setIfInBounds i true)) a := by
          unfold qOp at hq ⊢
          rw [at_l i hil]
          rw [show l.toArray[i]? = some l[i] by simp] at hq ⊢
          simp only at hq ⊢
          rw [wants_l h a.tmps i _ ho]
          exact hq
        exact wpOp_of_qOp hw (fun a' w' hw' hk => ih _ _ a' w' (hb.set i hil) hw' hk) hq'
end
theorem wp_region_quiet_last {P : Program} {id : Nat} {Q : Exit → Act → World → Prop} {a : Act} {w : World} {ops : List Oper} (n : Nat) (last : Oper) (hl : ops.drop n = [last]) (hm : P.follows .mixedOrders = true)
    (hB : Region.lexB .any (ops.take n).toArray = true) (hT : tailOk (ops.take n) last = true) (hb : (last.after.all fun e => !Region.binds .any e || decide (e.on < (ops.take n).length)) = true)
    (h : wpQuiet P (ops.take n).toArray (fun w' => ∃ k, w' = w.drewN k) (fun a' => ∀ w', (∃ k, w' = w.drewN k) → wpList P ops.toArray Q [last] a' w') (ops.take n) a) : (Code.region id ops.toArray true).wp P Q a w := by
  have hops : ops = ops.take n ++ [last] := by rw [← hl, List.take_append_drop]
  generalize ops.take n = l at *
  subst hops
  refine wp_region_any hm ?_
  simp only [Region.lexB, Bool.and_eq_true] at hB
  have hq := wpAnyQ_lex (P := P) (C := fun w' => ∃ k, w' = w.drewN k) (md := .any) hB.1 l 0 (Array.replicate l.toArray.size false) a (by simp) (by simpa using hB.2) h
  have := anyQ_tail (P := P) (C := fun w' => ∃ k, w' = w.drewN k) (Q' := Q) hT (fun e he hbd => by
    have h1 := Array.all_eq_true'.1 hb e he
    rw [hbd] at h1
    simpa using h1) (fun a' w' hw' hq' => by
      have h2 := hq' w' hw'
      unfold wpOp
      rw [at_n]
      exact h2) l.length (Array.replicate l.toArray.size false) (Array.replicate (l ++ [last]).toArray.size false) a ({ w with drawn := w.drawn + 1 })
    ⟨by simp, by simp, fun i hi => by rw [Array.getElem?_replicate, Array.getElem?_replicate, if_pos (by simp; omega), if_pos (by simpa using hi)], by simp⟩ ⟨1, rfl⟩ hq
  have hsz : (l ++ [last]).toArray.size = l.length + 1 := by simp
  rw [hsz] at this ⊢
  exact this
end Go.Proofs.Ytkoagpnoaibdjaa.Ext
