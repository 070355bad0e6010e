-- Printed by this session's pp.py over the kit's printer, out of the translation. Lean checks it.
import Derived.Test.YtflkehpgkiomdaaDoorPk0
import Derived.Test.YtflkehpgkiomdaaDoorPk1
import Derived.Test.YtflkehpgkiomdaaDoorPk2
import Derived.Test.YtflkehpgkiomdaaDoorPk3
namespace Go.Proofs.YtflkehpgkiomdaaDoor.Pk
open Go.RowKit Go.Proofs.YtflkehpgkiomdaaDoor.Ext Go.Proofs.YtflkehpgkiomdaaDoorW.PrintWords Go.Proofs.YtflkehpgkiomdaaDoorW.PrintLast Go.Proofs.YtflkehpgkiomdaaDoorW.PrintMore
attribute [local go_sem] max2_int min2_int max_two min_two max_three min_three max_four min_four   -- for this text's walks alone
set_option linter.unusedVariables false
set_option linter.unusedSimpArgs false
mutual
def selvagelaw03_PathBack.j0 : Nat → ByteArray → Int → List ByteArray → Bool → Option (Bool)
  | 0, _, _, _, _ => none
  | k + 1, x0, x2, x15, x81 => if x81 = true then (some false) else (selvagelaw03_PathBack.l0 k x0 x2 x15 0)
def selvagelaw03_PathBack.l0 : Nat → ByteArray → Int → List ByteArray → Int → Option (Bool)
  | 0, _, _, _, _ => none
  | k + 1, x0, x2, x15, x17 => if x17 < (x15.length : Int) then (if 0 ≤ x17 then ((path_Name.f (rdOf ByteArray.empty x15 x17)).bind fun t177 => (if t177.isNone = true then (selvagelaw03_PathBack.l0 k x0 x2 x15 (wrap64 (x17 + 1))) else (some false))) else (none)) else ((path_Strip.f k x0 (mx 0 (mn x2 20))).bind fun bt179 => ((path_Strip.f k x0 ((mx 0 (mn x2 20)) + 1)).bind fun bt181 => (if bt179.2.isNone = true then ((path_Strip.f k bt179.1 1).bind fun bt184 => (if bt184.1.toList = bt181.1.toList then ((selvagelaw03_num.f bt184.2).bind fun t186 => ((selvagelaw03_num.f bt181.2).bind fun t187 => (if t186 = t187 then ((selvagelaw03_sure.f k).bind fun t188 => (some t188)) else (some false)))) else (some false))) else (if bt181.2.isNone = true then (some false) else ((selvagelaw03_sure.f k).bind fun t190 => (some t190))))))
def selvagelaw03_PathBack.j2 : Nat → ByteArray → Int → List ByteArray → Bool → Option (Bool)
  | 0, _, _, _, _ => none
  | k + 1, x0, x2, x15, x81 => if x81 = true then (some false) else (selvagelaw03_PathBack.l0 k x0 x2 x15 0)
end
def selvagelaw03_PathBack.f (k : Nat) (a0 : ByteArray) (l1 : List ByteArray) (a2 : Int) : Option (Bool) := (path_Join.f k l1).bind fun bt155 => (if bt155.2.isNone = true then ((path_Parts.f k bt155.1).bind fun bt158 => (if bt158.2.isNone = true then ((selvagelaw03_same.f k bt158.1 l1).bind fun t163 => (if t163 = true then ((path_Safe.f k a0).bind fun bt164 => (if bt164.2.isNone = true then ((path_Safe.f k bt164.1).bind fun bt167 => ((path_Parts.f k bt164.1).bind fun bt169 => (if bt167.2.isNone = true then (if bt167.1.toList = bt164.1.toList then (if bt169.2.isNone = true then ((path_Below.f (⟨#[]⟩ : ByteArray) bt164.1).bind fun t175 => (if t175 = true then (selvagelaw03_PathBack.j0 k a0 a2 bt169.1 ((bt169.1.length : Int) == 0)) else (selvagelaw03_PathBack.j0 k a0 a2 bt169.1 true))) else (selvagelaw03_PathBack.j0 k a0 a2 bt169.1 true)) else (selvagelaw03_PathBack.j0 k a0 a2 bt169.1 true)) else (selvagelaw03_PathBack.j0 k a0 a2 bt169.1 true)))) else ((path_Strip.f k a0 (mx 0 (mn a2 20))).bind fun bt191 => ((path_Strip.f k a0 ((mx 0 (mn a2 20)) + 1)).bind fun bt193 => (if bt191.2.isNone = true then ((path_Strip.f k bt191.1 1).bind fun bt196 => (if bt196.1.toList = bt193.1.toList then ((selvagelaw03_num.f bt196.2).bind fun t198 => ((selvagelaw03_num.f bt193.2).bind fun t199 => (if t198 = t199 then ((selvagelaw03_sure.f k).bind fun t200 => (some t200)) else (some false)))) else (some false))) else (if bt193.2.isNone = true then (some false) else ((selvagelaw03_sure.f k).bind fun t202 => (some t202)))))))) else (some false))) else (some false))) else ((path_Safe.f k a0).bind fun bt203 => (if bt203.2.isNone = true then ((path_Safe.f k bt203.1).bind fun bt206 => ((path_Parts.f k bt203.1).bind fun bt208 => (if bt206.2.isNone = true then (if bt206.1.toList = bt203.1.toList then (if bt208.2.isNone = true then ((path_Below.f (⟨#[]⟩ : ByteArray) bt203.1).bind fun t214 => (if t214 = true then (selvagelaw03_PathBack.j2 k a0 a2 bt208.1 ((bt208.1.length : Int) == 0)) else (selvagelaw03_PathBack.j2 k a0 a2 bt208.1 true))) else (selvagelaw03_PathBack.j2 k a0 a2 bt208.1 true)) else (selvagelaw03_PathBack.j2 k a0 a2 bt208.1 true)) else (selvagelaw03_PathBack.j2 k a0 a2 bt208.1 true)))) else ((path_Strip.f k a0 (mx 0 (mn a2 20))).bind fun bt215 => ((path_Strip.f k a0 ((mx 0 (mn a2 20)) + 1)).bind fun bt217 => (if bt215.2.isNone = true then ((path_Strip.f k bt215.1 1).bind fun bt220 => (if bt220.1.toList = bt217.1.toList then ((selvagelaw03_num.f bt220.2).bind fun t222 => ((selvagelaw03_num.f bt217.2).bind fun t223 => (if t222 = t223 then ((selvagelaw03_sure.f k).bind fun t224 => (some t224)) else (some false)))) else (some false))) else (if bt217.2.isNone = true then (some false) else ((selvagelaw03_sure.f k).bind fun t226 => (some t226)))))))))
set_option maxHeartbeats 8000000 in
set_option maxRecDepth 100000 in
theorem selvagelaw03_PathBack.calls (k : Nat) (a0 : ByteArray) (A1 : Option Addr) (c1 : Nat) (l1 : List ByteArray) (a2 : Int) (r : Bool) (w : World) (hr1 : Kd.C Kd.string w A1 l1.length l1) (hc1 : l1.length ≤ c1) (hGL : Glob w) (h : selvagelaw03_PathBack.f k a0 l1 a2 = some r) :
    Calls Tryd.prog 9 #[.string a0, .slice A1 l1.length c1, .int .i64 a2] w fun e w' => e = .returned (.bool r) ∧ Below w.heap.size w w' := by
  have hu23 := Tryd.underlying23
  have hu51 := Tryd.underlying51
  have HR1 := Aside0.mk hr1
  have HC1 := Aside0.mk hc1
  clear hr1 hc1
  have HB := Aside0.mk (Below.refl w.heap.size w)
  have H : ((path_Join.f k l1).bind fun bt155 => (if bt155.2.isNone = true then ((path_Parts.f k bt155.1).bind fun bt158 => (if bt158.2.isNone = true then ((selvagelaw03_same.f k bt158.1 l1).bind fun t163 => (if t163 = true then ((path_Safe.f k a0).bind fun bt164 => (if bt164.2.isNone = true then ((path_Safe.f k bt164.1).bind fun bt167 => ((path_Parts.f k bt164.1).bind fun bt169 => (if bt167.2.isNone = true then (if bt167.1.toList = bt164.1.toList then (if bt169.2.isNone = true then ((path_Below.f (⟨#[]⟩ : ByteArray) bt164.1).bind fun t175 => (if t175 = true then (selvagelaw03_PathBack.j0 k a0 a2 bt169.1 ((bt169.1.length : Int) == 0)) else (selvagelaw03_PathBack.j0 k a0 a2 bt169.1 true))) else (selvagelaw03_PathBack.j0 k a0 a2 bt169.1 true)) else (selvagelaw03_PathBack.j0 k a0 a2 bt169.1 true)) else (selvagelaw03_PathBack.j0 k a0 a2 bt169.1 true)))) else ((path_Strip.f k a0 (mx 0 (mn a2 20))).bind fun bt191 => ((path_Strip.f k a0 ((mx 0 (mn a2 20)) + 1)).bind fun bt193 => (if bt191.2.isNone = true then ((path_Strip.f k bt191.1 1).bind fun bt196 => (if bt196.1.toList = bt193.1.toList then ((selvagelaw03_num.f bt196.2).bind fun t198 => ((selvagelaw03_num.f bt193.2).bind fun t199 => (if t198 = t199 then ((selvagelaw03_sure.f k).bind fun t200 => (some t200)) else (some false)))) else (some false))) else (if bt193.2.isNone = true then (some false) else ((selvagelaw03_sure.f k).bind fun t202 => (some t202)))))))) else (some false))) else (some false))) else ((path_Safe.f k a0).bind fun bt203 => (if bt203.2.isNone = true then ((path_Safe.f k bt203.1).bind fun bt206 => ((path_Parts.f k bt203.1).bind fun bt208 => (if bt206.2.isNone = true then (if bt206.1.toList = bt203.1.toList then (if bt208.2.isNone = true then ((path_Below.f (⟨#[]⟩ : ByteArray) bt203.1).bind fun t214 => (if t214 = true then (selvagelaw03_PathBack.j2 k a0 a2 bt208.1 ((bt208.1.length : Int) == 0)) else (selvagelaw03_PathBack.j2 k a0 a2 bt208.1 true))) else (selvagelaw03_PathBack.j2 k a0 a2 bt208.1 true)) else (selvagelaw03_PathBack.j2 k a0 a2 bt208.1 true)) else (selvagelaw03_PathBack.j2 k a0 a2 bt208.1 true)))) else ((path_Strip.f k a0 (mx 0 (mn a2 20))).bind fun bt215 => ((path_Strip.f k a0 ((mx 0 (mn a2 20)) + 1)).bind fun bt217 => (if bt215.2.isNone = true then ((path_Strip.f k bt215.1 1).bind fun bt220 => (if bt220.1.toList = bt217.1.toList then ((selvagelaw03_num.f bt220.2).bind fun t222 => ((selvagelaw03_num.f bt217.2).bind fun t223 => (if t222 = t223 then ((selvagelaw03_sure.f k).bind fun t224 => (some t224)) else (some false)))) else (some false))) else (if bt217.2.isNone = true then (some false) else ((selvagelaw03_sure.f k).bind fun t226 => (some t226)))))))))) = some r := h
  clear h
  replace H := Option.bind_eq_some_iff.mp H
  obtain ⟨⟨t155, t156⟩, A40, H⟩ := H
  replace H : (if t156.isNone = true then ((path_Parts.f k t155).bind fun bt158 => (if bt158.2.isNone = true then ((selvagelaw03_same.f k bt158.1 l1).bind fun t163 => (if t163 = true then ((path_Safe.f k a0).bind fun bt164 => (if bt164.2.isNone = true then ((path_Safe.f k bt164.1).bind fun bt167 => ((path_Parts.f k bt164.1).bind fun bt169 => (if bt167.2.isNone = true then (if bt167.1.toList = bt164.1.toList then (if bt169.2.isNone = true then ((path_Below.f (⟨#[]⟩ : ByteArray) bt164.1).bind fun t175 => (if t175 = true then (selvagelaw03_PathBack.j0 k a0 a2 bt169.1 ((bt169.1.length : Int) == 0)) else (selvagelaw03_PathBack.j0 k a0 a2 bt169.1 true))) else (selvagelaw03_PathBack.j0 k a0 a2 bt169.1 true)) else (selvagelaw03_PathBack.j0 k a0 a2 bt169.1 true)) else (selvagelaw03_PathBack.j0 k a0 a2 bt169.1 true)))) else ((path_Strip.f k a0 (mx 0 (mn a2 20))).bind fun bt191 => ((path_Strip.f k a0 ((mx 0 (mn a2 20)) + 1)).bind fun bt193 => (if bt191.2.isNone = true then ((path_Strip.f k bt191.1 1).bind fun bt196 => (if bt196.1.toList = bt193.1.toList then ((selvagelaw03_num.f bt196.2).bind fun t198 => ((selvagelaw03_num.f bt193.2).bind fun t199 => (if t198 = t199 then ((selvagelaw03_sure.f k).bind fun t200 => (some t200)) else (some false)))) else (some false))) else (if bt193.2.isNone = true then (some false) else ((selvagelaw03_sure.f k).bind fun t202 => (some t202)))))))) else (some false))) else (some false))) else ((path_Safe.f k a0).bind fun bt203 => (if bt203.2.isNone = true then ((path_Safe.f k bt203.1).bind fun bt206 => ((path_Parts.f k bt203.1).bind fun bt208 => (if bt206.2.isNone = true then (if bt206.1.toList = bt203.1.toList then (if bt208.2.isNone = true then ((path_Below.f (⟨#[]⟩ : ByteArray) bt203.1).bind fun t214 => (if t214 = true then (selvagelaw03_PathBack.j2 k a0 a2 bt208.1 ((bt208.1.length : Int) == 0)) else (selvagelaw03_PathBack.j2 k a0 a2 bt208.1 true))) else (selvagelaw03_PathBack.j2 k a0 a2 bt208.1 true)) else (selvagelaw03_PathBack.j2 k a0 a2 bt208.1 true)) else (selvagelaw03_PathBack.j2 k a0 a2 bt208.1 true)))) else ((path_Strip.f k a0 (mx 0 (mn a2 20))).bind fun bt215 => ((path_Strip.f k a0 ((mx 0 (mn a2 20)) + 1)).bind fun bt217 => (if bt215.2.isNone = true then ((path_Strip.f k bt215.1 1).bind fun bt220 => (if bt220.1.toList = bt217.1.toList then ((selvagelaw03_num.f bt220.2).bind fun t222 => ((selvagelaw03_num.f bt217.2).bind fun t223 => (if t222 = t223 then ((selvagelaw03_sure.f k).bind fun t224 => (some t224)) else (some false)))) else (some false))) else (if bt217.2.isNone = true then (some false) else ((selvagelaw03_sure.f k).bind fun t226 => (some t226))))))))) = some r := H
  have A4 := Aside0.mk A40
  clear A40
  rcases t156 with _ | q157
  · have H1 : ((path_Parts.f k t155).bind fun bt158 => (if bt158.2.isNone = true then ((selvagelaw03_same.f k bt158.1 l1).bind fun t163 => (if t163 = true then ((path_Safe.f k a0).bind fun bt164 => (if bt164.2.isNone = true then ((path_Safe.f k bt164.1).bind fun bt167 => ((path_Parts.f k bt164.1).bind fun bt169 => (if bt167.2.isNone = true then (if bt167.1.toList = bt164.1.toList then (if bt169.2.isNone = true then ((path_Below.f (⟨#[]⟩ : ByteArray) bt164.1).bind fun t175 => (if t175 = true then (selvagelaw03_PathBack.j0 k a0 a2 bt169.1 ((bt169.1.length : Int) == 0)) else (selvagelaw03_PathBack.j0 k a0 a2 bt169.1 true))) else (selvagelaw03_PathBack.j0 k a0 a2 bt169.1 true)) else (selvagelaw03_PathBack.j0 k a0 a2 bt169.1 true)) else (selvagelaw03_PathBack.j0 k a0 a2 bt169.1 true)))) else ((path_Strip.f k a0 (mx 0 (mn a2 20))).bind fun bt191 => ((path_Strip.f k a0 ((mx 0 (mn a2 20)) + 1)).bind fun bt193 => (if bt191.2.isNone = true then ((path_Strip.f k bt191.1 1).bind fun bt196 => (if bt196.1.toList = bt193.1.toList then ((selvagelaw03_num.f bt196.2).bind fun t198 => ((selvagelaw03_num.f bt193.2).bind fun t199 => (if t198 = t199 then ((selvagelaw03_sure.f k).bind fun t200 => (some t200)) else (some false)))) else (some false))) else (if bt193.2.isNone = true then (some false) else ((selvagelaw03_sure.f k).bind fun t202 => (some t202)))))))) else (some false))) else (some false))) = some r := by rw [if_pos (show (none : Option Int).isNone = true by rfl)] at H; exact H
    clear H
    have H := H1
    clear H1
    try simp only [errW_none, errW_some]
    replace H := Option.bind_eq_some_iff.mp H
    obtain ⟨⟨t158, t159⟩, A50, H⟩ := H
    replace H : (if t159.isNone = true then ((selvagelaw03_same.f k t158 l1).bind fun t163 => (if t163 = true then ((path_Safe.f k a0).bind fun bt164 => (if bt164.2.isNone = true then ((path_Safe.f k bt164.1).bind fun bt167 => ((path_Parts.f k bt164.1).bind fun bt169 => (if bt167.2.isNone = true then (if bt167.1.toList = bt164.1.toList then (if bt169.2.isNone = true then ((path_Below.f (⟨#[]⟩ : ByteArray) bt164.1).bind fun t175 => (if t175 = true then (selvagelaw03_PathBack.j0 k a0 a2 bt169.1 ((bt169.1.length : Int) == 0)) else (selvagelaw03_PathBack.j0 k a0 a2 bt169.1 true))) else (selvagelaw03_PathBack.j0 k a0 a2 bt169.1 true)) else (selvagelaw03_PathBack.j0 k a0 a2 bt169.1 true)) else (selvagelaw03_PathBack.j0 k a0 a2 bt169.1 true)))) else ((path_Strip.f k a0 (mx 0 (mn a2 20))).bind fun bt191 => ((path_Strip.f k a0 ((mx 0 (mn a2 20)) + 1)).bind fun bt193 => (if bt191.2.isNone = true then ((path_Strip.f k bt191.1 1).bind fun bt196 => (if bt196.1.toList = bt193.1.toList then ((selvagelaw03_num.f bt196.2).bind fun t198 => ((selvagelaw03_num.f bt193.2).bind fun t199 => (if t198 = t199 then ((selvagelaw03_sure.f k).bind fun t200 => (some t200)) else (some false)))) else (some false))) else (if bt193.2.isNone = true then (some false) else ((selvagelaw03_sure.f k).bind fun t202 => (some t202)))))))) else (some false))) else (some false)) = some r := H
    have A5 := Aside0.mk A50
    clear A50
    rcases t159 with _ | q162
    · have H1 : ((selvagelaw03_same.f k t158 l1).bind fun t163 => (if t163 = true then ((path_Safe.f k a0).bind fun bt164 => (if bt164.2.isNone = true then ((path_Safe.f k bt164.1).bind fun bt167 => ((path_Parts.f k bt164.1).bind fun bt169 => (if bt167.2.isNone = true then (if bt167.1.toList = bt164.1.toList then (if bt169.2.isNone = true then ((path_Below.f (⟨#[]⟩ : ByteArray) bt164.1).bind fun t175 => (if t175 = true then (selvagelaw03_PathBack.j0 k a0 a2 bt169.1 ((bt169.1.length : Int) == 0)) else (selvagelaw03_PathBack.j0 k a0 a2 bt169.1 true))) else (selvagelaw03_PathBack.j0 k a0 a2 bt169.1 true)) else (selvagelaw03_PathBack.j0 k a0 a2 bt169.1 true)) else (selvagelaw03_PathBack.j0 k a0 a2 bt169.1 true)))) else ((path_Strip.f k a0 (mx 0 (mn a2 20))).bind fun bt191 => ((path_Strip.f k a0 ((mx 0 (mn a2 20)) + 1)).bind fun bt193 => (if bt191.2.isNone = true then ((path_Strip.f k bt191.1 1).bind fun bt196 => (if bt196.1.toList = bt193.1.toList then ((selvagelaw03_num.f bt196.2).bind fun t198 => ((selvagelaw03_num.f bt193.2).bind fun t199 => (if t198 = t199 then ((selvagelaw03_sure.f k).bind fun t200 => (some t200)) else (some false)))) else (some false))) else (if bt193.2.isNone = true then (some false) else ((selvagelaw03_sure.f k).bind fun t202 => (some t202)))))))) else (some false))) = some r := by rw [if_pos (show (none : Option Int).isNone = true by rfl)] at H; exact H
      clear H
      have H := H1
      clear H1
      try simp only [errW_none, errW_some]
      replace H := Option.bind_eq_some_iff.mp H
      obtain ⟨t163, A60, H⟩ := H
      replace H : (if t163 = true then ((path_Safe.f k a0).bind fun bt164 => (if bt164.2.isNone = true then ((path_Safe.f k bt164.1).bind fun bt167 => ((path_Parts.f k bt164.1).bind fun bt169 => (if bt167.2.isNone = true then (if bt167.1.toList = bt164.1.toList then (if bt169.2.isNone = true then ((path_Below.f (⟨#[]⟩ : ByteArray) bt164.1).bind fun t175 => (if t175 = true then (selvagelaw03_PathBack.j0 k a0 a2 bt169.1 ((bt169.1.length : Int) == 0)) else (selvagelaw03_PathBack.j0 k a0 a2 bt169.1 true))) else (selvagelaw03_PathBack.j0 k a0 a2 bt169.1 true)) else (selvagelaw03_PathBack.j0 k a0 a2 bt169.1 true)) else (selvagelaw03_PathBack.j0 k a0 a2 bt169.1 true)))) else ((path_Strip.f k a0 (mx 0 (mn a2 20))).bind fun bt191 => ((path_Strip.f k a0 ((mx 0 (mn a2 20)) + 1)).bind fun bt193 => (if bt191.2.isNone = true then ((path_Strip.f k bt191.1 1).bind fun bt196 => (if bt196.1.toList = bt193.1.toList then ((selvagelaw03_num.f bt196.2).bind fun t198 => ((selvagelaw03_num.f bt193.2).bind fun t199 => (if t198 = t199 then ((selvagelaw03_sure.f k).bind fun t200 => (some t200)) else (some false)))) else (some false))) else (if bt193.2.isNone = true then (some false) else ((selvagelaw03_sure.f k).bind fun t202 => (some t202)))))))) else (some false)) = some r := H
      have A6 := Aside0.mk A60
      clear A60
      by_cases c7 : t163 = true
      · subst c7
        have H1 : ((path_Safe.f k a0).bind fun bt164 => (if bt164.2.isNone = true then ((path_Safe.f k bt164.1).bind fun bt167 => ((path_Parts.f k bt164.1).bind fun bt169 => (if bt167.2.isNone = true then (if bt167.1.toList = bt164.1.toList then (if bt169.2.isNone = true then ((path_Below.f (⟨#[]⟩ : ByteArray) bt164.1).bind fun t175 => (if t175 = true then (selvagelaw03_PathBack.j0 k a0 a2 bt169.1 ((bt169.1.length : Int) == 0)) else (selvagelaw03_PathBack.j0 k a0 a2 bt169.1 true))) else (selvagelaw03_PathBack.j0 k a0 a2 bt169.1 true)) else (selvagelaw03_PathBack.j0 k a0 a2 bt169.1 true)) else (selvagelaw03_PathBack.j0 k a0 a2 bt169.1 true)))) else ((path_Strip.f k a0 (mx 0 (mn a2 20))).bind fun bt191 => ((path_Strip.f k a0 ((mx 0 (mn a2 20)) + 1)).bind fun bt193 => (if bt191.2.isNone = true then ((path_Strip.f k bt191.1 1).bind fun bt196 => (if bt196.1.toList = bt193.1.toList then ((selvagelaw03_num.f bt196.2).bind fun t198 => ((selvagelaw03_num.f bt193.2).bind fun t199 => (if t198 = t199 then ((selvagelaw03_sure.f k).bind fun t200 => (some t200)) else (some false)))) else (some false))) else (if bt193.2.isNone = true then (some false) else ((selvagelaw03_sure.f k).bind fun t202 => (some t202)))))))) = some r := by rw [if_pos rfl] at H; exact H
        clear H
        have H := H1
        clear H1
        replace H := Option.bind_eq_some_iff.mp H
        obtain ⟨⟨t164, t165⟩, A80, H⟩ := H
        replace H : (if t165.isNone = true then ((path_Safe.f k t164).bind fun bt167 => ((path_Parts.f k t164).bind fun bt169 => (if bt167.2.isNone = true then (if bt167.1.toList = t164.toList then (if bt169.2.isNone = true then ((path_Below.f (⟨#[]⟩ : ByteArray) t164).bind fun t175 => (if t175 = true then (selvagelaw03_PathBack.j0 k a0 a2 bt169.1 ((bt169.1.length : Int) == 0)) else (selvagelaw03_PathBack.j0 k a0 a2 bt169.1 true))) else (selvagelaw03_PathBack.j0 k a0 a2 bt169.1 true)) else (selvagelaw03_PathBack.j0 k a0 a2 bt169.1 true)) else (selvagelaw03_PathBack.j0 k a0 a2 bt169.1 true)))) else ((path_Strip.f k a0 (mx 0 (mn a2 20))).bind fun bt191 => ((path_Strip.f k a0 ((mx 0 (mn a2 20)) + 1)).bind fun bt193 => (if bt191.2.isNone = true then ((path_Strip.f k bt191.1 1).bind fun bt196 => (if bt196.1.toList = bt193.1.toList then ((selvagelaw03_num.f bt196.2).bind fun t198 => ((selvagelaw03_num.f bt193.2).bind fun t199 => (if t198 = t199 then ((selvagelaw03_sure.f k).bind fun t200 => (some t200)) else (some false)))) else (some false))) else (if bt193.2.isNone = true then (some false) else ((selvagelaw03_sure.f k).bind fun t202 => (some t202))))))) = some r := H
        have A8 := Aside0.mk A80
        clear A80
        rcases t165 with _ | q166
        · have H1 : ((path_Safe.f k t164).bind fun bt167 => ((path_Parts.f k t164).bind fun bt169 => (if bt167.2.isNone = true then (if bt167.1.toList = t164.toList then (if bt169.2.isNone = true then ((path_Below.f (⟨#[]⟩ : ByteArray) t164).bind fun t175 => (if t175 = true then (selvagelaw03_PathBack.j0 k a0 a2 bt169.1 ((bt169.1.length : Int) == 0)) else (selvagelaw03_PathBack.j0 k a0 a2 bt169.1 true))) else (selvagelaw03_PathBack.j0 k a0 a2 bt169.1 true)) else (selvagelaw03_PathBack.j0 k a0 a2 bt169.1 true)) else (selvagelaw03_PathBack.j0 k a0 a2 bt169.1 true)))) = some r := by rw [if_pos (show (none : Option Int).isNone = true by rfl)] at H; exact H
          clear H
          have H := H1
          clear H1
          try simp only [errW_none, errW_some]
          replace H := Option.bind_eq_some_iff.mp H
          obtain ⟨⟨t167, t168⟩, A90, H⟩ := H
          replace H : ((path_Parts.f k t164).bind fun bt169 => (if t168.isNone = true then (if t167.toList = t164.toList then (if bt169.2.isNone = true then ((path_Below.f (⟨#[]⟩ : ByteArray) t164).bind fun t175 => (if t175 = true then (selvagelaw03_PathBack.j0 k a0 a2 bt169.1 ((bt169.1.length : Int) == 0)) else (selvagelaw03_PathBack.j0 k a0 a2 bt169.1 true))) else (selvagelaw03_PathBack.j0 k a0 a2 bt169.1 true)) else (selvagelaw03_PathBack.j0 k a0 a2 bt169.1 true)) else (selvagelaw03_PathBack.j0 k a0 a2 bt169.1 true))) = some r := H
          have A9 := Aside0.mk A90
          clear A90
          replace H := Option.bind_eq_some_iff.mp H
          obtain ⟨⟨t169, t170⟩, A100, H⟩ := H
          replace H : (if t168.isNone = true then (if t167.toList = t164.toList then (if t170.isNone = true then ((path_Below.f (⟨#[]⟩ : ByteArray) t164).bind fun t175 => (if t175 = true then (selvagelaw03_PathBack.j0 k a0 a2 t169 ((t169.length : Int) == 0)) else (selvagelaw03_PathBack.j0 k a0 a2 t169 true))) else (selvagelaw03_PathBack.j0 k a0 a2 t169 true)) else (selvagelaw03_PathBack.j0 k a0 a2 t169 true)) else (selvagelaw03_PathBack.j0 k a0 a2 t169 true)) = some r := H
          have A10 := Aside0.mk A100
          clear A100
          have HC11 := Aside0.mk H
          clear H
          go_enter Tryd.func9, Tryd.ntmps9
          go_upto_region 10 with (first | ((with_reducible refine gate_callee (f := 18) rfl ?_); refine goesL_ (some 26) rfl rfl Tryd.func18 (by kernel_rfl) rfl #[.slice A1 l1.length c1] rfl (by (try simp only [List.map_toArray, List.map_cons, List.map_nil]); first | done | rfl | (simp only [List.length_drop, List.length_take]; rfl)) ?_; (with_reducible refine (path_Join.calls k _ _ l1 t155 none _ ?side1 ?side2 A4.out).mono ?_); (case side1 => repeat (first | exact HR1.out | (with_reducible refine Kd.C_alloc ?_ _) | (with_reducible refine Kd.C_drewN ?_ _) | (with_reducible refine Kd.C_drew ?_))); (case side2 => exact HC1.out); rintro e w12 ⟨rfl, hb⟩; refine ⟨_, rfl, ?_⟩; have n0_ := Aside0.mk (below_step (by repeat (first | (with_reducible first | exact HB.out | apply below_alloc | apply pw_below_drewN | apply below_drew1) | exact HB.out)) hb); clear HB; have HB := n0_; clear n0_; (try clear hb); (try clear hb2); (try clear hk); (try clear hi); (try simp only [errW_none, errW_some])) | ((with_reducible refine gate_callee (f := 19) rfl ?_); refine goesL_ (some 33) rfl rfl Tryd.func19 (by kernel_rfl) rfl #[.string t155] rfl (by (try simp only [List.map_toArray, List.map_cons, List.map_nil]); first | done | rfl | (simp only [List.length_drop, List.length_take]; rfl)) ?_; (with_reducible refine (path_Parts.calls k t155 t158 none _ ?side1 A5.out).mono ?_); (case side1 => exact Glob.below hGL (by repeat (first | (with_reducible first | exact HB.out | apply below_alloc | apply pw_below_drewN | apply below_drew1) | exact HB.out))); rintro e w13 ⟨v160, rfl, ho0, hb⟩; refine ⟨_, rfl, ?_⟩; have n0_ := Aside0.mk (Kd.R_lower ho0 (below_size (by repeat (first | (with_reducible first | exact HB.out | apply below_alloc | apply pw_below_drewN | apply below_drew1) | exact HB.out)))); have n1_ := Aside0.mk (below_step (by repeat (first | (with_reducible first | exact HB.out | apply below_alloc | apply pw_below_drewN | apply below_drew1) | exact HB.out)) hb); clear HB; have HO161 := n0_; have HB := n1_; clear n0_ n1_; (try clear hb); (try clear hb2); (try clear hk); (try clear hi); (try clear ho0); (try simp only [errW_none, errW_some]); obtain ⟨Ao14, co14, eo14⟩ := Kd.R_slice HO161.out; subst eo14) | (go_at_call 23; (with_reducible refine (selvagelaw03_same.calls k _ _ t158 _ _ l1 true _ ?side1 ?side2 ?side3 ?side4 A6.out).mono ?_); (case side1 => repeat (first | exact (Kd.R_reads' HO161.out).2.2 | (with_reducible refine Kd.C_alloc ?_ _) | (with_reducible refine Kd.C_drewN ?_ _) | (with_reducible refine Kd.C_drew ?_))); (case side2 => exact (Kd.R_reads' HO161.out).2.1); (case side3 => repeat (first | exact (Kd.C_below HR1.out HB.out) | (with_reducible refine Kd.C_alloc ?_ _) | (with_reducible refine Kd.C_drewN ?_ _) | (with_reducible refine Kd.C_drew ?_))); (case side4 => exact HC1.out); rintro e w' ⟨rfl, ⟨nd, rfl⟩⟩) | ((with_reducible refine gate_callee (f := 32) rfl ?_); refine goesL_ (some 46) rfl rfl Tryd.func32 (by kernel_rfl) rfl #[.string a0] rfl (by (try simp only [List.map_toArray, List.map_cons, List.map_nil]); first | done | rfl | (simp only [List.length_drop, List.length_take]; rfl)) ?_; (with_reducible refine (path_Safe.calls k a0 t164 none _ ?side1 A8.out).mono ?_); (case side1 => exact Glob.below hGL (by repeat (first | (with_reducible first | exact HB.out | apply below_alloc | apply pw_below_drewN | apply below_drew1) | exact HB.out))); rintro e w15 ⟨rfl, hb⟩; refine ⟨_, rfl, ?_⟩; have n0_ := Aside0.mk (Kd.R_below (by (with_reducible repeat (first | apply Kd.R_alloc | apply Kd.R_drewN | apply Kd.R_drew)); exact HO161.out) hb); have n1_ := Aside0.mk (below_step (by repeat (first | (with_reducible first | exact HB.out | apply below_alloc | apply pw_below_drewN | apply below_drew1) | exact HB.out)) hb); clear HO161; clear HB; have HO161 := n0_; have HB := n1_; clear n0_ n1_; (try clear hb); (try clear hb2); (try clear hk); (try clear hi); (try simp only [errW_none, errW_some])) | ((with_reducible refine gate_callee (f := 32) rfl ?_); refine goesL_ (some 53) rfl rfl Tryd.func32 (by kernel_rfl) rfl #[.string t164] rfl (by (try simp only [List.map_toArray, List.map_cons, List.map_nil]); first | done | rfl | (simp only [List.length_drop, List.length_take]; rfl)) ?_; (with_reducible refine (path_Safe.calls k t164 t167 t168 _ ?side1 A9.out).mono ?_); (case side1 => exact Glob.below hGL (by repeat (first | (with_reducible first | exact HB.out | apply below_alloc | apply pw_below_drewN | apply below_drew1) | exact HB.out))); rintro e w16 ⟨rfl, hb⟩; refine ⟨_, rfl, ?_⟩; have n0_ := Aside0.mk (Kd.R_below (by (with_reducible repeat (first | apply Kd.R_alloc | apply Kd.R_drewN | apply Kd.R_drew)); exact HO161.out) hb); have n1_ := Aside0.mk (below_step (by repeat (first | (with_reducible first | exact HB.out | apply below_alloc | apply pw_below_drewN | apply below_drew1) | exact HB.out)) hb); clear HO161; clear HB; have HO161 := n0_; have HB := n1_; clear n0_ n1_; (try clear hb); (try clear hb2); (try clear hk); (try clear hi); (try simp only [errW_none, errW_some])) | ((with_reducible refine gate_callee (f := 19) rfl ?_); refine goesL_ (some 58) rfl rfl Tryd.func19 (by kernel_rfl) rfl #[.string t164] rfl (by (try simp only [List.map_toArray, List.map_cons, List.map_nil]); first | done | rfl | (simp only [List.length_drop, List.length_take]; rfl)) ?_; (with_reducible refine (path_Parts.calls k t164 t169 t170 _ ?side1 A10.out).mono ?_); (case side1 => exact Glob.below hGL (by repeat (first | (with_reducible first | exact HB.out | apply below_alloc | apply pw_below_drewN | apply below_drew1) | exact HB.out))); rintro e w17 ⟨v171, rfl, ho0, hb⟩; refine ⟨_, rfl, ?_⟩; have n0_ := Aside0.mk (Kd.R_elder' (by (with_reducible repeat (first | apply Kd.R_alloc | apply Kd.R_drewN | apply Kd.R_drew)); exact HO161.out) (Kd.R_base ho0) hb); have n1_ := Aside0.mk (Kd.R_lower (Kd.R_new' ho0 (Kd.R_lt (by (with_reducible repeat (first | apply Kd.R_alloc | apply Kd.R_drewN | apply Kd.R_drew)); exact HO161.out))) (below_size (by repeat (first | (with_reducible first | exact HB.out | apply below_alloc | apply pw_below_drewN | apply below_drew1) | exact HB.out)))); have n2_ := Aside0.mk (below_step (by repeat (first | (with_reducible first | exact HB.out | apply below_alloc | apply pw_below_drewN | apply below_drew1) | exact HB.out)) hb); clear HO161; clear HB; have HO161 := n0_; have HO172 := n1_; have HB := n2_; clear n0_ n1_ n2_; (try clear hb); (try clear hb2); (try clear hk); (try clear hi); (try clear ho0); (try simp only [errW_none, errW_some])))
          (try simp only [Act.put, List.setIfInBounds_toArray, List.set_cons_zero, List.set_cons_succ])
          go_cut [81] (fun v81 wc => ∃ (kq : Nat) (x81_10 : Bool), v81 = .bool x81_10 ∧ Aside0 (selvagelaw03_PathBack.j0 kq a0 a2 t169 x81_10 = some r) ∧ Aside0 (kq ≤ k) ∧ Aside0 (Kd.R Kd.string 9 wc w.heap.size (fun _ => True) v171 t169) ∧ Aside0 (Below w.heap.size w wc))
          case first =>
            have H := HC11.out
            clear HC11
            rcases t168 with _ | q173
            · have H1 : (if t167.toList = t164.toList then (if t170.isNone = true then ((path_Below.f (⟨#[]⟩ : ByteArray) t164).bind fun t175 => (if t175 = true then (selvagelaw03_PathBack.j0 k a0 a2 t169 ((t169.length : Int) == 0)) else (selvagelaw03_PathBack.j0 k a0 a2 t169 true))) else (selvagelaw03_PathBack.j0 k a0 a2 t169 true)) else (selvagelaw03_PathBack.j0 k a0 a2 t169 true)) = some r := by rw [if_pos (show (none : Option Int).isNone = true by rfl)] at H; exact H
              clear H
              have H := H1
              clear H1
              try simp only [errW_none, errW_some]
              by_cases c18 : t167.toList = t164.toList
              · rw [if_pos c18] at H
                have c18b0 : (t167.toList == t164.toList) = true := beq_iff_eq.mpr c18
                have c18b1 : (t167.toList != t164.toList) = false := bne_eq_false_iff_eq.mpr c18
                clear c18
                (first | rw [c18b0] | (simp only [i64_w, i32_w]; rw [c18b0]) | skip)
                rcases t170 with _ | q174
                · have H1 : ((path_Below.f (⟨#[]⟩ : ByteArray) t164).bind fun t175 => (if t175 = true then (selvagelaw03_PathBack.j0 k a0 a2 t169 ((t169.length : Int) == 0)) else (selvagelaw03_PathBack.j0 k a0 a2 t169 true))) = some r := by rw [if_pos (show (none : Option Int).isNone = true by rfl)] at H; exact H
                  clear H
                  have H := H1
                  clear H1
                  try simp only [errW_none, errW_some]
                  replace H := Option.bind_eq_some_iff.mp H
                  obtain ⟨t175, A190, H⟩ := H
                  replace H : (if t175 = true then (selvagelaw03_PathBack.j0 k a0 a2 t169 ((t169.length : Int) == 0)) else (selvagelaw03_PathBack.j0 k a0 a2 t169 true)) = some r := H
                  have A19 := Aside0.mk A190
                  clear A190
                  by_cases c20 : t175 = true
                  · subst c20
                    have H1 : (selvagelaw03_PathBack.j0 k a0 a2 t169 ((t169.length : Int) == 0)) = some r := by rw [if_pos rfl] at H; exact H
                    clear H
                    have H := H1
                    clear H1
                    have H' := Aside0.mk H
                    clear H
                    go_wp2_with (first | (go_at_call 34; (with_reducible refine (path_Below.calls (⟨#[]⟩ : ByteArray) t164 true _ A19.out).mono ?_); rintro e w' ⟨rfl, ⟨nd, rfl⟩⟩; obtain ⟨Ao21, co21, eo21⟩ := Kd.R_slice HO172.out; subst eo21))
                    go_meet
                    case rel => exact ⟨_, (((t169.length : Int) == 0)), (by first | rfl | (simp; done) | (simp [*]; done) | (simp [*] <;> rfl)), H', ⟨by first | omega | exact Nat.le_refl _⟩, ⟨by (with_reducible repeat (first | apply Kd.R_alloc | apply Kd.R_drewN | apply Kd.R_drew)); exact Kd.R_mono HO172.out (fun _ hk => trivial)⟩, ⟨by repeat (first | (with_reducible first | exact HB.out | apply below_alloc | apply pw_below_drewN | apply below_drew1) | exact HB.out)⟩⟩
                  · replace c20 := Bool.eq_false_iff.mpr c20
                    subst c20
                    have H1 : (selvagelaw03_PathBack.j0 k a0 a2 t169 true) = some r := by rw [if_neg (show ¬ (false = true) by decide)] at H; exact H
                    clear H
                    have H := H1
                    clear H1
                    have H' := Aside0.mk H
                    clear H
                    go_wp2_with (first | (go_at_call 34; (with_reducible refine (path_Below.calls (⟨#[]⟩ : ByteArray) t164 false _ A19.out).mono ?_); rintro e w' ⟨rfl, ⟨nd, rfl⟩⟩))
                    go_meet
                    case rel => exact ⟨_, (true), (by first | rfl | (simp; done) | (simp [*]; done) | (simp [*] <;> rfl)), H', ⟨by first | omega | exact Nat.le_refl _⟩, ⟨by (with_reducible repeat (first | apply Kd.R_alloc | apply Kd.R_drewN | apply Kd.R_drew)); exact Kd.R_mono HO172.out (fun _ hk => trivial)⟩, ⟨by repeat (first | (with_reducible first | exact HB.out | apply below_alloc | apply pw_below_drewN | apply below_drew1) | exact HB.out)⟩⟩
                · have H1 : (selvagelaw03_PathBack.j0 k a0 a2 t169 true) = some r := by rw [if_neg (show ¬ (some q174).isNone = true by simp)] at H; exact H
                  clear H
                  have H := H1
                  clear H1
                  try simp only [errW_none, errW_some]
                  have H' := Aside0.mk H
                  clear H
                  go_wp2
                  go_meet
                  case rel => exact ⟨_, (true), (by first | rfl | (simp; done) | (simp [*]; done) | (simp [*] <;> rfl)), H', ⟨by first | omega | exact Nat.le_refl _⟩, ⟨by (with_reducible repeat (first | apply Kd.R_alloc | apply Kd.R_drewN | apply Kd.R_drew)); exact Kd.R_mono HO172.out (fun _ hk => trivial)⟩, ⟨by repeat (first | (with_reducible first | exact HB.out | apply below_alloc | apply pw_below_drewN | apply below_drew1) | exact HB.out)⟩⟩
              · rw [if_neg c18] at H
                have c18b0 : (t167.toList == t164.toList) = false := beq_eq_false_iff_ne.mpr c18
                have c18b1 : (t167.toList != t164.toList) = true := bne_iff_ne.mpr c18
                (first | rw [c18b0] | (simp only [i64_w, i32_w]; rw [c18b0]) | skip)
                have H' := Aside0.mk H
                clear H
                go_wp2
                go_meet
                case rel => exact ⟨_, (true), (by first | rfl | (simp; done) | (simp [*]; done) | (simp [*] <;> rfl)), H', ⟨by first | omega | exact Nat.le_refl _⟩, ⟨by (with_reducible repeat (first | apply Kd.R_alloc | apply Kd.R_drewN | apply Kd.R_drew)); exact Kd.R_mono HO172.out (fun _ hk => trivial)⟩, ⟨by repeat (first | (with_reducible first | exact HB.out | apply below_alloc | apply pw_below_drewN | apply below_drew1) | exact HB.out)⟩⟩
            · have H1 : (selvagelaw03_PathBack.j0 k a0 a2 t169 true) = some r := by rw [if_neg (show ¬ (some q173).isNone = true by simp)] at H; exact H
              clear H
              have H := H1
              clear H1
              try simp only [errW_none, errW_some]
              have H' := Aside0.mk H
              clear H
              go_wp2
              go_meet
              case rel => exact ⟨_, (true), (by first | rfl | (simp; done) | (simp [*]; done) | (simp [*] <;> rfl)), H', ⟨by first | omega | exact Nat.le_refl _⟩, ⟨by (with_reducible repeat (first | apply Kd.R_alloc | apply Kd.R_drewN | apply Kd.R_drew)); exact Kd.R_mono HO172.out (fun _ hk => trivial)⟩, ⟨by repeat (first | (with_reducible first | exact HB.out | apply below_alloc | apply pw_below_drewN | apply below_drew1) | exact HB.out)⟩⟩
          case rest =>
            clear HC11
            try clear c1
            try clear q1
            try clear c2
            try clear p2
            try clear c3
            try clear c7
            try clear c9
            try clear q15
            try clear q16
            try clear q17
            try clear c18
            try clear c18b0
            try clear c18b1
            try clear c19
            try clear c20
            try clear q157
            try clear q162
            try clear q166
            try clear q173
            try clear q174
            obtain ⟨kq, x81_10, rfl, HA, HJ10, HO_15, HB⟩ := hcut
            cases kq with
            | zero => exact absurd HA.out (by simp [selvagelaw03_PathBack.j0])
            | succ kj10 =>
              have H := HA.out
              clear HA
              simp only [selvagelaw03_PathBack.j0] at H
              by_cases c22 : x81_10 = true
              · subst c22
                have H1 : (some false) = some r := by rw [if_pos rfl] at H; exact H
                clear H
                have H := H1
                clear H1
                obtain rfl := Option.some.inj H
                go_wp2
                go_ret
                exact ⟨by first | rfl | (simp [errW_none, errW_some] <;> rfl) | (simp [*, errW_none, errW_some] <;> rfl) | (simp only [i64_w, i32_w, u8_w]; first | rfl | (simp [errW_none, errW_some] <;> rfl)) | (simp only [bne_nil, beq_nil]; first | rfl | (simp <;> rfl)), by repeat (first | (with_reducible first | exact HB.out | apply below_alloc | apply pw_below_drewN | apply below_drew1) | exact HB.out)⟩
              · replace c22 := Bool.eq_false_iff.mpr c22
                subst c22
                have H1 : (selvagelaw03_PathBack.l0 kj10 a0 a2 t169 0) = some r := by rw [if_neg (show ¬ (false = true) by decide)] at H; exact H
                clear H
                have H := H1
                clear H1
                have H' := Aside0.mk H
                clear H
                go_wp2
                go_loopg [17] kj10 (fun kq v17 w' => ∃ (x17_2 : Int), v17 = .int .i64 x17_2 ∧ Aside0 (selvagelaw03_PathBack.l0 kq a0 a2 t169 x17_2 = some r) ∧ Aside0 (kq ≤ kj10) ∧ Aside0 (Kd.R Kd.string 9 w' w.heap.size (fun _ => True) v171 t169) ∧ Aside0 (Below w.heap.size w w'))
                case atStart => exact ⟨(0), (by first | rfl | (simp; done) | (simp [*]; done) | (simp [*] <;> rfl)), H', ⟨Nat.le_refl _⟩, ⟨by (with_reducible repeat (first | apply Kd.R_alloc | apply Kd.R_drewN | apply Kd.R_drew)); (first | exact HO_15.out | exact Kd.R_mono HO_15.out (fun k_ h_ h2_ => h_ (h2_.trans ((fun (A_ : Option Addr) (n_ m_ c_ : Nat) => (show (Value.slice A_ n_ c_).ownBlock = (Value.slice A_ m_ c_).ownBlock by cases A_ <;> rfl)) _ _ _ _))))⟩, ⟨by repeat (first | (with_reducible first | exact HB.out | apply below_alloc | apply pw_below_drewN | apply below_drew1) | exact HB.out)⟩⟩
                case round =>
                  clear H'
                  try clear c1
                  try clear q1
                  try clear c2
                  try clear p2
                  try clear c3
                  try clear c7
                  try clear c9
                  try clear q15
                  try clear q16
                  try clear q17
                  try clear c18
                  try clear c18b0
                  try clear c18b1
                  try clear c19
                  try clear c20
                  try clear c22
                  try clear p2
                  try clear q1
                  try clear q15
                  try clear q157
                  try clear q16
                  try clear q162
                  try clear q166
                  try clear q17
                  try clear q173
                  try clear q174
                  obtain ⟨x17_2, rfl, HA, HK2, HO_15, HB⟩ := hrel
                  cases gk with
                  | zero => exact absurd HA.out (by simp [selvagelaw03_PathBack.l0])
                  | succ k2 =>
                    have H := HA.out
                    clear HA
                    simp only [selvagelaw03_PathBack.l0] at H
                    by_cases c23 : x17_2 < (t169.length : Int)
                    · rw [if_pos c23] at H
                      have c23b0 : decide (x17_2 < (t169.length : Int)) = true := decide_eq_true c23
                      clear c23
                      by_cases c24 : 0 ≤ x17_2
                      · rw [if_pos c24] at H
                        have c24b0 : decide (0 ≤ x17_2) = true := decide_eq_true c24
                        clear c24
                        replace H := Option.bind_eq_some_iff.mp H
                        obtain ⟨t177, A250, H⟩ := H
                        replace H : (if t177.isNone = true then (selvagelaw03_PathBack.l0 k2 a0 a2 t169 (wrap64 (x17_2 + 1))) else (some false)) = some r := H
                        have A25 := Aside0.mk A250
                        clear A250
                        rcases t177 with _ | q178
                        · have H1 : (selvagelaw03_PathBack.l0 k2 a0 a2 t169 (wrap64 (x17_2 + 1))) = some r := by rw [if_pos (show (none : Option Int).isNone = true by rfl)] at H; exact H
                          clear H
                          have H := H1
                          clear H1
                          try simp only [errW_none, errW_some]
                          have H' := Aside0.mk H
                          clear H
                          obtain ⟨Ao26, co26, eo26⟩ := Kd.R_slice HO_15.out
                          subst eo26
                          have p176 : 0 ≤ (x17_2 : Int) := of_decide_eq_true (by first | (with_reducible assumption) | assumption)
                          have q176 : x17_2 < (t169.length : Int) := of_decide_eq_true (by first | (with_reducible assumption) | assumption)
                          obtain ⟨ad176, e176, hx176_0⟩ := Kd.at_string (Kd.R_reads' HO_15.out).2.2 x17_2 p176 q176
                          cases e176
                          replace p176 := eq_true p176
                          replace q176 := eq_true q176
                          go_wp2_with (first | ((with_reducible refine gate_callee (f := 21) rfl ?_); refine goesL_ (some 92) rfl rfl Tryd.func21 (by kernel_rfl) rfl #[.string (rdOf ByteArray.empty t169 x17_2)] rfl (by (try simp only [List.map_toArray, List.map_cons, List.map_nil]); first | done | rfl | (simp only [List.length_drop, List.length_take]; rfl)) ?_; (with_reducible refine (path_Name.calls (rdOf ByteArray.empty t169 x17_2) none _ A25.out).mono ?_); rintro e w27 ⟨rfl, hb⟩; refine ⟨_, rfl, ?_⟩; have n0_ := Aside0.mk (Kd.R_below (by (with_reducible repeat (first | apply Kd.R_alloc | apply Kd.R_drewN | apply Kd.R_drew)); exact HO_15.out) hb); have n1_ := Aside0.mk (below_step (by repeat (first | (with_reducible first | exact HB.out | apply below_alloc | apply pw_below_drewN | apply below_drew1) | exact HB.out)) hb); clear HO_15; clear HB; have HO_15 := n0_; have HB := n1_; clear n0_ n1_; (try clear hb); (try clear hb2); (try clear hk); (try clear hi); (try simp only [errW_none, errW_some])))
                          go_roundg k2
                          case measure => have := HJ10.out; have := HK2.out; omega
                          case rel => exact ⟨(wrap64 (x17_2 + 1)), (by first | rfl | (simp; done) | (simp [*]; done) | (simp [*] <;> rfl)), H', ⟨by have := HJ10.out; have := HK2.out; omega⟩, ⟨by (with_reducible repeat (first | apply Kd.R_alloc | apply Kd.R_drewN | apply Kd.R_drew)); (first | exact HO_15.out | exact Kd.R_mono HO_15.out (fun k_ h_ h2_ => h_ (h2_.trans ((fun (A_ : Option Addr) (n_ m_ c_ : Nat) => (show (Value.slice A_ n_ c_).ownBlock = (Value.slice A_ m_ c_).ownBlock by cases A_ <;> rfl)) _ _ _ _))))⟩, ⟨by repeat (first | (with_reducible first | exact HB.out | apply below_alloc | apply pw_below_drewN | apply below_drew1) | exact HB.out)⟩⟩
                        · have H1 : (some false) = some r := by rw [if_neg (show ¬ (some q178).isNone = true by simp)] at H; exact H
                          clear H
                          have H := H1
                          clear H1
                          try simp only [errW_none, errW_some]
                          obtain rfl := Option.some.inj H
                          obtain ⟨Ao28, co28, eo28⟩ := Kd.R_slice HO_15.out
                          subst eo28
                          have p176 : 0 ≤ (x17_2 : Int) := of_decide_eq_true (by first | (with_reducible assumption) | assumption)
                          have q176 : x17_2 < (t169.length : Int) := of_decide_eq_true (by first | (with_reducible assumption) | assumption)
                          obtain ⟨ad176, e176, hx176_0⟩ := Kd.at_string (Kd.R_reads' HO_15.out).2.2 x17_2 p176 q176
                          cases e176
                          replace p176 := eq_true p176
                          replace q176 := eq_true q176
                          go_wp2_with (first | ((with_reducible refine gate_callee (f := 21) rfl ?_); refine goesL_ (some 92) rfl rfl Tryd.func21 (by kernel_rfl) rfl #[.string (rdOf ByteArray.empty t169 x17_2)] rfl (by (try simp only [List.map_toArray, List.map_cons, List.map_nil]); first | done | rfl | (simp only [List.length_drop, List.length_take]; rfl)) ?_; (with_reducible refine (path_Name.calls (rdOf ByteArray.empty t169 x17_2) (some q178) _ A25.out).mono ?_); rintro e w29 ⟨rfl, hb⟩; refine ⟨_, rfl, ?_⟩; have n0_ := Aside0.mk (Kd.R_below (by (with_reducible repeat (first | apply Kd.R_alloc | apply Kd.R_drewN | apply Kd.R_drew)); exact HO_15.out) hb); have n1_ := Aside0.mk (below_step (by repeat (first | (with_reducible first | exact HB.out | apply below_alloc | apply pw_below_drewN | apply below_drew1) | exact HB.out)) hb); clear HO_15; clear HB; have HO_15 := n0_; have HB := n1_; clear n0_ n1_; (try clear hb); (try clear hb2); (try clear hk); (try clear hi); (try simp only [errW_none, errW_some])))
                          go_ret
                          exact ⟨by first | rfl | (simp [errW_none, errW_some] <;> rfl) | (simp [*, errW_none, errW_some] <;> rfl) | (simp only [i64_w, i32_w, u8_w]; first | rfl | (simp [errW_none, errW_some] <;> rfl)) | (simp only [bne_nil, beq_nil]; first | rfl | (simp <;> rfl)), by repeat (first | (with_reducible first | exact HB.out | apply below_alloc | apply pw_below_drewN | apply below_drew1) | exact HB.out)⟩
                      · rw [if_neg c24] at H
                        exact absurd H (by simp)
                    · rw [if_neg c23] at H
                      have c23b0 : decide (x17_2 < (t169.length : Int)) = false := decide_eq_false c23
                      clear c23
                      obtain ⟨ji30, hji30⟩ : ∃ j_ : Int, (mn a2 20) = j_ := ⟨_, rfl⟩
                      replace H : ((path_Strip.f k2 a0 (mx 0 (ji30))).bind fun bt179 => ((path_Strip.f k2 a0 ((mx 0 (ji30)) + 1)).bind fun bt181 => (if bt179.2.isNone = true then ((path_Strip.f k2 bt179.1 1).bind fun bt184 => (if bt184.1.toList = bt181.1.toList then ((selvagelaw03_num.f bt184.2).bind fun t186 => ((selvagelaw03_num.f bt181.2).bind fun t187 => (if t186 = t187 then ((selvagelaw03_sure.f k2).bind fun t188 => (some t188)) else (some false)))) else (some false))) else (if bt181.2.isNone = true then (some false) else ((selvagelaw03_sure.f k2).bind fun t190 => (some t190)))))) = some r := by first | (rw [hji30] at H; exact H) | (simp only [hji30] at H ⊢; exact H)
                      (try (have hji30h : ji30 ≤ 20 := by (rw [← hji30]; unfold mn; (repeat' split) <;> omega)))
                      (try (have hji30g : ji30 ≤ 64 := by omega))
                      have hji30_ : (if 20 < a2 then 20 else a2) = ji30 := hji30
                      obtain ⟨ji31, hji31⟩ : ∃ j_ : Int, (mx 0 (ji30)) = j_ := ⟨_, rfl⟩
                      replace H : ((path_Strip.f k2 a0 (ji31)).bind fun bt179 => ((path_Strip.f k2 a0 ((ji31) + 1)).bind fun bt181 => (if bt179.2.isNone = true then ((path_Strip.f k2 bt179.1 1).bind fun bt184 => (if bt184.1.toList = bt181.1.toList then ((selvagelaw03_num.f bt184.2).bind fun t186 => ((selvagelaw03_num.f bt181.2).bind fun t187 => (if t186 = t187 then ((selvagelaw03_sure.f k2).bind fun t188 => (some t188)) else (some false)))) else (some false))) else (if bt181.2.isNone = true then (some false) else ((selvagelaw03_sure.f k2).bind fun t190 => (some t190)))))) = some r := by first | (rw [hji31] at H; exact H) | (simp only [hji31] at H ⊢; exact H)
                      have hji31_ : (if 0 < (ji30) then (ji30) else 0) = ji31 := hji31
                      replace H := Option.bind_eq_some_iff.mp H
                      obtain ⟨⟨t179, t180⟩, A320, H⟩ := H
                      replace H : ((path_Strip.f k2 a0 ((ji31) + 1)).bind fun bt181 => (if t180.isNone = true then ((path_Strip.f k2 t179 1).bind fun bt184 => (if bt184.1.toList = bt181.1.toList then ((selvagelaw03_num.f bt184.2).bind fun t186 => ((selvagelaw03_num.f bt181.2).bind fun t187 => (if t186 = t187 then ((selvagelaw03_sure.f k2).bind fun t188 => (some t188)) else (some false)))) else (some false))) else (if bt181.2.isNone = true then (some false) else ((selvagelaw03_sure.f k2).bind fun t190 => (some t190))))) = some r := H
                      have A32 := Aside0.mk A320
                      clear A320
                      replace H := Option.bind_eq_some_iff.mp H
                      obtain ⟨⟨t181, t182⟩, A330, H⟩ := H
                      replace H : (if t180.isNone = true then ((path_Strip.f k2 t179 1).bind fun bt184 => (if bt184.1.toList = t181.toList then ((selvagelaw03_num.f bt184.2).bind fun t186 => ((selvagelaw03_num.f t182).bind fun t187 => (if t186 = t187 then ((selvagelaw03_sure.f k2).bind fun t188 => (some t188)) else (some false)))) else (some false))) else (if t182.isNone = true then (some false) else ((selvagelaw03_sure.f k2).bind fun t190 => (some t190)))) = some r := H
                      have A33 := Aside0.mk A330
                      clear A330
                      rcases t180 with _ | q183
                      · have H1 : ((path_Strip.f k2 t179 1).bind fun bt184 => (if bt184.1.toList = t181.toList then ((selvagelaw03_num.f bt184.2).bind fun t186 => ((selvagelaw03_num.f t182).bind fun t187 => (if t186 = t187 then ((selvagelaw03_sure.f k2).bind fun t188 => (some t188)) else (some false)))) else (some false))) = some r := by rw [if_pos (show (none : Option Int).isNone = true by rfl)] at H; exact H
                        clear H
                        have H := H1
                        clear H1
                        try simp only [errW_none, errW_some]
                        replace H := Option.bind_eq_some_iff.mp H
                        obtain ⟨⟨t184, t185⟩, A340, H⟩ := H
                        replace H : (if t184.toList = t181.toList then ((selvagelaw03_num.f t185).bind fun t186 => ((selvagelaw03_num.f t182).bind fun t187 => (if t186 = t187 then ((selvagelaw03_sure.f k2).bind fun t188 => (some t188)) else (some false)))) else (some false)) = some r := H
                        have A34 := Aside0.mk A340
                        clear A340
                        by_cases c35 : t184.toList = t181.toList
                        · rw [if_pos c35] at H
                          have c35b0 : (t184.toList == t181.toList) = true := beq_iff_eq.mpr c35
                          have c35b1 : (t184.toList != t181.toList) = false := bne_eq_false_iff_eq.mpr c35
                          clear c35
                          replace H := Option.bind_eq_some_iff.mp H
                          obtain ⟨t186, A360, H⟩ := H
                          replace H : ((selvagelaw03_num.f t182).bind fun t187 => (if t186 = t187 then ((selvagelaw03_sure.f k2).bind fun t188 => (some t188)) else (some false))) = some r := H
                          have A36 := Aside0.mk A360
                          clear A360
                          replace H := Option.bind_eq_some_iff.mp H
                          obtain ⟨t187, A370, H⟩ := H
                          replace H : (if t186 = t187 then ((selvagelaw03_sure.f k2).bind fun t188 => (some t188)) else (some false)) = some r := H
                          have A37 := Aside0.mk A370
                          clear A370
                          by_cases c38 : t186 = t187
                          · rw [if_pos c38] at H
                            have c38b0 : (t186 == t187) = true := beq_iff_eq.mpr c38
                            have c38b1 : (t186 != t187) = false := bne_eq_false_iff_eq.mpr c38
                            clear c38
                            replace H := Option.bind_eq_some_iff.mp H
                            obtain ⟨t188, A390, H⟩ := H
                            replace H : (some t188) = some r := H
                            have A39 := Aside0.mk A390
                            clear A390
                            obtain rfl := Option.some.inj H
                            obtain ⟨Ao40, co40, eo40⟩ := Kd.R_slice HO_15.out
                            subst eo40
                            go_wp2_with (first | ((with_reducible refine gate_callee (f := 30) rfl ?_); refine goesL_ (some 100) rfl rfl Tryd.func30 (by kernel_rfl) rfl #[.string a0, .int .i64 ji31] rfl (by (try simp only [List.map_toArray, List.map_cons, List.map_nil]); first | done | (simp only [hji31]; rfl) | rfl | (simp only [List.length_drop, List.length_take]; rfl)) ?_; (with_reducible refine (path_Strip.calls k2 a0 ji31 t179 none _ A32.out).mono ?_); rintro e w' ⟨rfl, ⟨nd, rfl⟩⟩; refine ⟨_, rfl, ?_⟩; (try simp only [errW_none, errW_some])) | ((with_reducible refine gate_callee (f := 30) rfl ?_); refine goesL_ (some 107) rfl rfl Tryd.func30 (by kernel_rfl) rfl #[.string a0, .int .i64 ((ji31) + 1)] rfl (by (try simp only [List.map_toArray, List.map_cons, List.map_nil]); first | done | (simp only [hji31]; rfl) | rfl | (simp only [List.length_drop, List.length_take]; rfl)) ?_; (with_reducible refine (path_Strip.calls k2 a0 ((ji31) + 1) t181 t182 _ A33.out).mono ?_); rintro e w' ⟨rfl, ⟨nd, rfl⟩⟩; refine ⟨_, rfl, ?_⟩; (try simp only [errW_none, errW_some])) | ((with_reducible refine gate_callee (f := 30) rfl ?_); refine goesL_ (some 114) rfl rfl Tryd.func30 (by kernel_rfl) rfl #[.string t179, .int .i64 1] rfl (by (try simp only [List.map_toArray, List.map_cons, List.map_nil]); first | done | rfl | (simp only [List.length_drop, List.length_take]; rfl)) ?_; (with_reducible refine (path_Strip.calls k2 t179 1 t184 t185 _ A34.out).mono ?_); rintro e w' ⟨rfl, ⟨nd, rfl⟩⟩; refine ⟨_, rfl, ?_⟩; (try simp only [errW_none, errW_some]); have CA36 := fun W (hG_ : Glob W) => selvagelaw03_num.calls t185 t186 W hG_ A36.out; try simp only [errW_none, errW_some] at CA36) | (go_at_call 16; (with_reducible refine (CA36 _ ?side1).mono ?_); (case side1 => exact Glob.below hGL (by repeat (first | (with_reducible first | exact HB.out | apply below_alloc | apply pw_below_drewN | apply below_drew1) | exact HB.out))); rintro e w41 ⟨rfl, hb⟩; have n0_ := Aside0.mk (Kd.R_below (by (with_reducible repeat (first | apply Kd.R_alloc | apply Kd.R_drewN | apply Kd.R_drew)); exact HO_15.out) hb); have n1_ := Aside0.mk (below_step (by repeat (first | (with_reducible first | exact HB.out | apply below_alloc | apply pw_below_drewN | apply below_drew1) | exact HB.out)) hb); clear HO_15; clear HB; have HO_15 := n0_; have HB := n1_; clear n0_ n1_; (try clear hb); (try clear hb2); (try clear hk); (try clear hi); have CA37 := fun W (hG_ : Glob W) => selvagelaw03_num.calls t182 t187 W hG_ A37.out; try simp only [errW_none, errW_some] at CA37) | (go_at_call 16; (with_reducible refine (CA37 _ ?side1).mono ?_); (case side1 => exact Glob.below hGL (by repeat (first | (with_reducible first | exact HB.out | apply below_alloc | apply pw_below_drewN | apply below_drew1) | exact HB.out))); rintro e w42 ⟨rfl, hb⟩; have n0_ := Aside0.mk (Kd.R_below (by (with_reducible repeat (first | apply Kd.R_alloc | apply Kd.R_drewN | apply Kd.R_drew)); exact HO_15.out) hb); have n1_ := Aside0.mk (below_step (by repeat (first | (with_reducible first | exact HB.out | apply below_alloc | apply pw_below_drewN | apply below_drew1) | exact HB.out)) hb); clear HO_15; clear HB; have HO_15 := n0_; have HB := n1_; clear n0_ n1_; (try clear hb); (try clear hb2); (try clear hk); (try clear hi)) | ((with_reducible refine gate_callee (f := 28) rfl ?_); refine goesL_ (some 129) rfl rfl Tryd.func28 (by kernel_rfl) rfl #[] rfl (by (try simp only [List.map_toArray, List.map_cons, List.map_nil]); first | done | rfl | (simp only [List.length_drop, List.length_take]; rfl)) ?_; (with_reducible refine (selvagelaw03_sure.calls k2  t188 _ ?side1 A39.out).mono ?_); (case side1 => exact Glob.below hGL (by repeat (first | (with_reducible first | exact HB.out | apply below_alloc | apply pw_below_drewN | apply below_drew1) | exact HB.out))); rintro e w43 ⟨rfl, hb⟩; refine ⟨_, rfl, ?_⟩; have n0_ := Aside0.mk (Kd.R_below (by (with_reducible repeat (first | apply Kd.R_alloc | apply Kd.R_drewN | apply Kd.R_drew)); exact HO_15.out) hb); have n1_ := Aside0.mk (below_step (by repeat (first | (with_reducible first | exact HB.out | apply below_alloc | apply pw_below_drewN | apply below_drew1) | exact HB.out)) hb); clear HO_15; clear HB; have HO_15 := n0_; have HB := n1_; clear n0_ n1_; (try clear hb); (try clear hb2); (try clear hk); (try clear hi)))
                            go_ret
                            exact ⟨by first | rfl | (simp [errW_none, errW_some] <;> rfl) | (simp only [← hji30, ← hji31]; first | rfl | (simp [errW_none, errW_some] <;> rfl)) | (simp [*, errW_none, errW_some] <;> rfl) | (simp only [i64_w, i32_w, u8_w]; first | rfl | (simp [errW_none, errW_some] <;> rfl)) | (simp only [bne_nil, beq_nil]; first | rfl | (simp <;> rfl)), by repeat (first | (with_reducible first | exact HB.out | apply below_alloc | apply pw_below_drewN | apply below_drew1) | exact HB.out)⟩
                          · rw [if_neg c38] at H
                            have c38b0 : (t186 == t187) = false := beq_eq_false_iff_ne.mpr c38
                            have c38b1 : (t186 != t187) = true := bne_iff_ne.mpr c38
                            obtain rfl := Option.some.inj H
                            obtain ⟨Ao44, co44, eo44⟩ := Kd.R_slice HO_15.out
                            subst eo44
                            go_wp2_with (first | ((with_reducible refine gate_callee (f := 30) rfl ?_); refine goesL_ (some 100) rfl rfl Tryd.func30 (by kernel_rfl) rfl #[.string a0, .int .i64 ji31] rfl (by (try simp only [List.map_toArray, List.map_cons, List.map_nil]); first | done | (simp only [hji31]; rfl) | rfl | (simp only [List.length_drop, List.length_take]; rfl)) ?_; (with_reducible refine (path_Strip.calls k2 a0 ji31 t179 none _ A32.out).mono ?_); rintro e w' ⟨rfl, ⟨nd, rfl⟩⟩; refine ⟨_, rfl, ?_⟩; (try simp only [errW_none, errW_some])) | ((with_reducible refine gate_callee (f := 30) rfl ?_); refine goesL_ (some 107) rfl rfl Tryd.func30 (by kernel_rfl) rfl #[.string a0, .int .i64 ((ji31) + 1)] rfl (by (try simp only [List.map_toArray, List.map_cons, List.map_nil]); first | done | (simp only [hji31]; rfl) | rfl | (simp only [List.length_drop, List.length_take]; rfl)) ?_; (with_reducible refine (path_Strip.calls k2 a0 ((ji31) + 1) t181 t182 _ A33.out).mono ?_); rintro e w' ⟨rfl, ⟨nd, rfl⟩⟩; refine ⟨_, rfl, ?_⟩; (try simp only [errW_none, errW_some])) | ((with_reducible refine gate_callee (f := 30) rfl ?_); refine goesL_ (some 114) rfl rfl Tryd.func30 (by kernel_rfl) rfl #[.string t179, .int .i64 1] rfl (by (try simp only [List.map_toArray, List.map_cons, List.map_nil]); first | done | rfl | (simp only [List.length_drop, List.length_take]; rfl)) ?_; (with_reducible refine (path_Strip.calls k2 t179 1 t184 t185 _ A34.out).mono ?_); rintro e w' ⟨rfl, ⟨nd, rfl⟩⟩; refine ⟨_, rfl, ?_⟩; (try simp only [errW_none, errW_some]); have CA36 := fun W (hG_ : Glob W) => selvagelaw03_num.calls t185 t186 W hG_ A36.out; try simp only [errW_none, errW_some] at CA36) | (go_at_call 16; (with_reducible refine (CA36 _ ?side1).mono ?_); (case side1 => exact Glob.below hGL (by repeat (first | (with_reducible first | exact HB.out | apply below_alloc | apply pw_below_drewN | apply below_drew1) | exact HB.out))); rintro e w45 ⟨rfl, hb⟩; have n0_ := Aside0.mk (Kd.R_below (by (with_reducible repeat (first | apply Kd.R_alloc | apply Kd.R_drewN | apply Kd.R_drew)); exact HO_15.out) hb); have n1_ := Aside0.mk (below_step (by repeat (first | (with_reducible first | exact HB.out | apply below_alloc | apply pw_below_drewN | apply below_drew1) | exact HB.out)) hb); clear HO_15; clear HB; have HO_15 := n0_; have HB := n1_; clear n0_ n1_; (try clear hb); (try clear hb2); (try clear hk); (try clear hi); have CA37 := fun W (hG_ : Glob W) => selvagelaw03_num.calls t182 t187 W hG_ A37.out; try simp only [errW_none, errW_some] at CA37) | (go_at_call 16; (with_reducible refine (CA37 _ ?side1).mono ?_); (case side1 => exact Glob.below hGL (by repeat (first | (with_reducible first | exact HB.out | apply below_alloc | apply pw_below_drewN | apply below_drew1) | exact HB.out))); rintro e w46 ⟨rfl, hb⟩; have n0_ := Aside0.mk (Kd.R_below (by (with_reducible repeat (first | apply Kd.R_alloc | apply Kd.R_drewN | apply Kd.R_drew)); exact HO_15.out) hb); have n1_ := Aside0.mk (below_step (by repeat (first | (with_reducible first | exact HB.out | apply below_alloc | apply pw_below_drewN | apply below_drew1) | exact HB.out)) hb); clear HO_15; clear HB; have HO_15 := n0_; have HB := n1_; clear n0_ n1_; (try clear hb); (try clear hb2); (try clear hk); (try clear hi)))
                            go_ret
                            exact ⟨by first | rfl | (simp [errW_none, errW_some] <;> rfl) | (simp only [← hji30, ← hji31]; first | rfl | (simp [errW_none, errW_some] <;> rfl)) | (simp [*, errW_none, errW_some] <;> rfl) | (simp only [i64_w, i32_w, u8_w]; first | rfl | (simp [errW_none, errW_some] <;> rfl)) | (simp only [bne_nil, beq_nil]; first | rfl | (simp <;> rfl)), by repeat (first | (with_reducible first | exact HB.out | apply below_alloc | apply pw_below_drewN | apply below_drew1) | exact HB.out)⟩
                        · rw [if_neg c35] at H
                          have c35b0 : (t184.toList == t181.toList) = false := beq_eq_false_iff_ne.mpr c35
                          have c35b1 : (t184.toList != t181.toList) = true := bne_iff_ne.mpr c35
                          obtain rfl := Option.some.inj H
                          obtain ⟨Ao47, co47, eo47⟩ := Kd.R_slice HO_15.out
                          subst eo47
                          go_wp2_with (first | ((with_reducible refine gate_callee (f := 30) rfl ?_); refine goesL_ (some 100) rfl rfl Tryd.func30 (by kernel_rfl) rfl #[.string a0, .int .i64 ji31] rfl (by (try simp only [List.map_toArray, List.map_cons, List.map_nil]); first | done | (simp only [hji31]; rfl) | rfl | (simp only [List.length_drop, List.length_take]; rfl)) ?_; (with_reducible refine (path_Strip.calls k2 a0 ji31 t179 none _ A32.out).mono ?_); rintro e w' ⟨rfl, ⟨nd, rfl⟩⟩; refine ⟨_, rfl, ?_⟩; (try simp only [errW_none, errW_some])) | ((with_reducible refine gate_callee (f := 30) rfl ?_); refine goesL_ (some 107) rfl rfl Tryd.func30 (by kernel_rfl) rfl #[.string a0, .int .i64 ((ji31) + 1)] rfl (by (try simp only [List.map_toArray, List.map_cons, List.map_nil]); first | done | (simp only [hji31]; rfl) | rfl | (simp only [List.length_drop, List.length_take]; rfl)) ?_; (with_reducible refine (path_Strip.calls k2 a0 ((ji31) + 1) t181 t182 _ A33.out).mono ?_); rintro e w' ⟨rfl, ⟨nd, rfl⟩⟩; refine ⟨_, rfl, ?_⟩; (try simp only [errW_none, errW_some])) | ((with_reducible refine gate_callee (f := 30) rfl ?_); refine goesL_ (some 114) rfl rfl Tryd.func30 (by kernel_rfl) rfl #[.string t179, .int .i64 1] rfl (by (try simp only [List.map_toArray, List.map_cons, List.map_nil]); first | done | rfl | (simp only [List.length_drop, List.length_take]; rfl)) ?_; (with_reducible refine (path_Strip.calls k2 t179 1 t184 t185 _ A34.out).mono ?_); rintro e w' ⟨rfl, ⟨nd, rfl⟩⟩; refine ⟨_, rfl, ?_⟩; (try simp only [errW_none, errW_some])))
                          go_ret
                          exact ⟨by first | rfl | (simp [errW_none, errW_some] <;> rfl) | (simp only [← hji30, ← hji31]; first | rfl | (simp [errW_none, errW_some] <;> rfl)) | (simp [*, errW_none, errW_some] <;> rfl) | (simp only [i64_w, i32_w, u8_w]; first | rfl | (simp [errW_none, errW_some] <;> rfl)) | (simp only [bne_nil, beq_nil]; first | rfl | (simp <;> rfl)), by repeat (first | (with_reducible first | exact HB.out | apply below_alloc | apply pw_below_drewN | apply below_drew1) | exact HB.out)⟩
                      · have H1 : (if t182.isNone = true then (some false) else ((selvagelaw03_sure.f k2).bind fun t190 => (some t190))) = some r := by rw [if_neg (show ¬ (some q183).isNone = true by simp)] at H; exact H
                        clear H
                        have H := H1
                        clear H1
                        try simp only [errW_none, errW_some]
                        rcases t182 with _ | q189
                        · have H1 : (some false) = some r := by rw [if_pos (show (none : Option Int).isNone = true by rfl)] at H; exact H
                          clear H
                          have H := H1
                          clear H1
                          try simp only [errW_none, errW_some]
                          obtain rfl := Option.some.inj H
                          obtain ⟨Ao48, co48, eo48⟩ := Kd.R_slice HO_15.out
                          subst eo48
                          go_wp2_with (first | ((with_reducible refine gate_callee (f := 30) rfl ?_); refine goesL_ (some 100) rfl rfl Tryd.func30 (by kernel_rfl) rfl #[.string a0, .int .i64 ji31] rfl (by (try simp only [List.map_toArray, List.map_cons, List.map_nil]); first | done | (simp only [hji31]; rfl) | rfl | (simp only [List.length_drop, List.length_take]; rfl)) ?_; (with_reducible refine (path_Strip.calls k2 a0 ji31 t179 (some q183) _ A32.out).mono ?_); rintro e w' ⟨rfl, ⟨nd, rfl⟩⟩; refine ⟨_, rfl, ?_⟩; (try simp only [errW_none, errW_some])) | ((with_reducible refine gate_callee (f := 30) rfl ?_); refine goesL_ (some 107) rfl rfl Tryd.func30 (by kernel_rfl) rfl #[.string a0, .int .i64 ((ji31) + 1)] rfl (by (try simp only [List.map_toArray, List.map_cons, List.map_nil]); first | done | (simp only [hji31]; rfl) | rfl | (simp only [List.length_drop, List.length_take]; rfl)) ?_; (with_reducible refine (path_Strip.calls k2 a0 ((ji31) + 1) t181 none _ A33.out).mono ?_); rintro e w' ⟨rfl, ⟨nd, rfl⟩⟩; refine ⟨_, rfl, ?_⟩; (try simp only [errW_none, errW_some])))
                          go_ret
                          exact ⟨by first | rfl | (simp [errW_none, errW_some] <;> rfl) | (simp only [← hji30, ← hji31]; first | rfl | (simp [errW_none, errW_some] <;> rfl)) | (simp [*, errW_none, errW_some] <;> rfl) | (simp only [i64_w, i32_w, u8_w]; first | rfl | (simp [errW_none, errW_some] <;> rfl)) | (simp only [bne_nil, beq_nil]; first | rfl | (simp <;> rfl)), by repeat (first | (with_reducible first | exact HB.out | apply below_alloc | apply pw_below_drewN | apply below_drew1) | exact HB.out)⟩
                        · have H1 : ((selvagelaw03_sure.f k2).bind fun t190 => (some t190)) = some r := by rw [if_neg (show ¬ (some q189).isNone = true by simp)] at H; exact H
                          clear H
                          have H := H1
                          clear H1
                          try simp only [errW_none, errW_some]
                          replace H := Option.bind_eq_some_iff.mp H
                          obtain ⟨t190, A490, H⟩ := H
                          replace H : (some t190) = some r := H
                          have A49 := Aside0.mk A490
                          clear A490
                          obtain rfl := Option.some.inj H
                          obtain ⟨Ao50, co50, eo50⟩ := Kd.R_slice HO_15.out
                          subst eo50
                          go_wp2_with (first | ((with_reducible refine gate_callee (f := 30) rfl ?_); refine goesL_ (some 100) rfl rfl Tryd.func30 (by kernel_rfl) rfl #[.string a0, .int .i64 ji31] rfl (by (try simp only [List.map_toArray, List.map_cons, List.map_nil]); first | done | (simp only [hji31]; rfl) | rfl | (simp only [List.length_drop, List.length_take]; rfl)) ?_; (with_reducible refine (path_Strip.calls k2 a0 ji31 t179 (some q183) _ A32.out).mono ?_); rintro e w' ⟨rfl, ⟨nd, rfl⟩⟩; refine ⟨_, rfl, ?_⟩; (try simp only [errW_none, errW_some])) | ((with_reducible refine gate_callee (f := 30) rfl ?_); refine goesL_ (some 107) rfl rfl Tryd.func30 (by kernel_rfl) rfl #[.string a0, .int .i64 ((ji31) + 1)] rfl (by (try simp only [List.map_toArray, List.map_cons, List.map_nil]); first | done | (simp only [hji31]; rfl) | rfl | (simp only [List.length_drop, List.length_take]; rfl)) ?_; (with_reducible refine (path_Strip.calls k2 a0 ((ji31) + 1) t181 (some q189) _ A33.out).mono ?_); rintro e w' ⟨rfl, ⟨nd, rfl⟩⟩; refine ⟨_, rfl, ?_⟩; (try simp only [errW_none, errW_some])) | ((with_reducible refine gate_callee (f := 28) rfl ?_); refine goesL_ (some 129) rfl rfl Tryd.func28 (by kernel_rfl) rfl #[] rfl (by (try simp only [List.map_toArray, List.map_cons, List.map_nil]); first | done | rfl | (simp only [List.length_drop, List.length_take]; rfl)) ?_; (with_reducible refine (selvagelaw03_sure.calls k2  t190 _ ?side1 A49.out).mono ?_); (case side1 => exact Glob.below hGL (by repeat (first | (with_reducible first | exact HB.out | apply below_alloc | apply pw_below_drewN | apply below_drew1) | exact HB.out))); rintro e w51 ⟨rfl, hb⟩; refine ⟨_, rfl, ?_⟩; have n0_ := Aside0.mk (Kd.R_below (by (with_reducible repeat (first | apply Kd.R_alloc | apply Kd.R_drewN | apply Kd.R_drew)); exact HO_15.out) hb); have n1_ := Aside0.mk (below_step (by repeat (first | (with_reducible first | exact HB.out | apply below_alloc | apply pw_below_drewN | apply below_drew1) | exact HB.out)) hb); clear HO_15; clear HB; have HO_15 := n0_; have HB := n1_; clear n0_ n1_; (try clear hb); (try clear hb2); (try clear hk); (try clear hi)))
                          go_ret
                          exact ⟨by first | rfl | (simp [errW_none, errW_some] <;> rfl) | (simp only [← hji30, ← hji31]; first | rfl | (simp [errW_none, errW_some] <;> rfl)) | (simp [*, errW_none, errW_some] <;> rfl) | (simp only [i64_w, i32_w, u8_w]; first | rfl | (simp [errW_none, errW_some] <;> rfl)) | (simp only [bne_nil, beq_nil]; first | rfl | (simp <;> rfl)), by repeat (first | (with_reducible first | exact HB.out | apply below_alloc | apply pw_below_drewN | apply below_drew1) | exact HB.out)⟩
        · have H1 : ((path_Strip.f k a0 (mx 0 (mn a2 20))).bind fun bt191 => ((path_Strip.f k a0 ((mx 0 (mn a2 20)) + 1)).bind fun bt193 => (if bt191.2.isNone = true then ((path_Strip.f k bt191.1 1).bind fun bt196 => (if bt196.1.toList = bt193.1.toList then ((selvagelaw03_num.f bt196.2).bind fun t198 => ((selvagelaw03_num.f bt193.2).bind fun t199 => (if t198 = t199 then ((selvagelaw03_sure.f k).bind fun t200 => (some t200)) else (some false)))) else (some false))) else (if bt193.2.isNone = true then (some false) else ((selvagelaw03_sure.f k).bind fun t202 => (some t202)))))) = some r := by rw [if_neg (show ¬ (some q166).isNone = true by simp)] at H; exact H
          clear H
          have H := H1
          clear H1
          try simp only [errW_none, errW_some]
          obtain ⟨ji52, hji52⟩ : ∃ j_ : Int, (mn a2 20) = j_ := ⟨_, rfl⟩
          replace H : ((path_Strip.f k a0 (mx 0 (ji52))).bind fun bt191 => ((path_Strip.f k a0 ((mx 0 (ji52)) + 1)).bind fun bt193 => (if bt191.2.isNone = true then ((path_Strip.f k bt191.1 1).bind fun bt196 => (if bt196.1.toList = bt193.1.toList then ((selvagelaw03_num.f bt196.2).bind fun t198 => ((selvagelaw03_num.f bt193.2).bind fun t199 => (if t198 = t199 then ((selvagelaw03_sure.f k).bind fun t200 => (some t200)) else (some false)))) else (some false))) else (if bt193.2.isNone = true then (some false) else ((selvagelaw03_sure.f k).bind fun t202 => (some t202)))))) = some r := by first | (rw [hji52] at H; exact H) | (simp only [hji52] at H ⊢; exact H)
          (try rw [hji52] at A4)
          (try rw [hji52] at A5)
          (try rw [hji52] at A6)
          (try rw [hji52] at A8)
          (try (have hji52h : ji52 ≤ 20 := by (rw [← hji52]; unfold mn; (repeat' split) <;> omega)))
          (try (have hji52g : ji52 ≤ 64 := by omega))
          have hji52_ : (if 20 < a2 then 20 else a2) = ji52 := hji52
          obtain ⟨ji53, hji53⟩ : ∃ j_ : Int, (mx 0 (ji52)) = j_ := ⟨_, rfl⟩
          replace H : ((path_Strip.f k a0 (ji53)).bind fun bt191 => ((path_Strip.f k a0 ((ji53) + 1)).bind fun bt193 => (if bt191.2.isNone = true then ((path_Strip.f k bt191.1 1).bind fun bt196 => (if bt196.1.toList = bt193.1.toList then ((selvagelaw03_num.f bt196.2).bind fun t198 => ((selvagelaw03_num.f bt193.2).bind fun t199 => (if t198 = t199 then ((selvagelaw03_sure.f k).bind fun t200 => (some t200)) else (some false)))) else (some false))) else (if bt193.2.isNone = true then (some false) else ((selvagelaw03_sure.f k).bind fun t202 => (some t202)))))) = some r := by first | (rw [hji53] at H; exact H) | (simp only [hji53] at H ⊢; exact H)
          (try rw [hji53] at A4)
          (try rw [hji53] at A5)
          (try rw [hji53] at A6)
          (try rw [hji53] at A8)
          have hji53_ : (if 0 < (ji52) then (ji52) else 0) = ji53 := hji53
          replace H := Option.bind_eq_some_iff.mp H
          obtain ⟨⟨t191, t192⟩, A540, H⟩ := H
          replace H : ((path_Strip.f k a0 ((ji53) + 1)).bind fun bt193 => (if t192.isNone = true then ((path_Strip.f k t191 1).bind fun bt196 => (if bt196.1.toList = bt193.1.toList then ((selvagelaw03_num.f bt196.2).bind fun t198 => ((selvagelaw03_num.f bt193.2).bind fun t199 => (if t198 = t199 then ((selvagelaw03_sure.f k).bind fun t200 => (some t200)) else (some false)))) else (some false))) else (if bt193.2.isNone = true then (some false) else ((selvagelaw03_sure.f k).bind fun t202 => (some t202))))) = some r := H
          have A54 := Aside0.mk A540
          clear A540
          replace H := Option.bind_eq_some_iff.mp H
          obtain ⟨⟨t193, t194⟩, A550, H⟩ := H
          replace H : (if t192.isNone = true then ((path_Strip.f k t191 1).bind fun bt196 => (if bt196.1.toList = t193.toList then ((selvagelaw03_num.f bt196.2).bind fun t198 => ((selvagelaw03_num.f t194).bind fun t199 => (if t198 = t199 then ((selvagelaw03_sure.f k).bind fun t200 => (some t200)) else (some false)))) else (some false))) else (if t194.isNone = true then (some false) else ((selvagelaw03_sure.f k).bind fun t202 => (some t202)))) = some r := H
          have A55 := Aside0.mk A550
          clear A550
          rcases t192 with _ | q195
          · have H1 : ((path_Strip.f k t191 1).bind fun bt196 => (if bt196.1.toList = t193.toList then ((selvagelaw03_num.f bt196.2).bind fun t198 => ((selvagelaw03_num.f t194).bind fun t199 => (if t198 = t199 then ((selvagelaw03_sure.f k).bind fun t200 => (some t200)) else (some false)))) else (some false))) = some r := by rw [if_pos (show (none : Option Int).isNone = true by rfl)] at H; exact H
            clear H
            have H := H1
            clear H1
            try simp only [errW_none, errW_some]
            replace H := Option.bind_eq_some_iff.mp H
            obtain ⟨⟨t196, t197⟩, A560, H⟩ := H
            replace H : (if t196.toList = t193.toList then ((selvagelaw03_num.f t197).bind fun t198 => ((selvagelaw03_num.f t194).bind fun t199 => (if t198 = t199 then ((selvagelaw03_sure.f k).bind fun t200 => (some t200)) else (some false)))) else (some false)) = some r := H
            have A56 := Aside0.mk A560
            clear A560
            by_cases c57 : t196.toList = t193.toList
            · rw [if_pos c57] at H
              have c57b0 : (t196.toList == t193.toList) = true := beq_iff_eq.mpr c57
              have c57b1 : (t196.toList != t193.toList) = false := bne_eq_false_iff_eq.mpr c57
              clear c57
              replace H := Option.bind_eq_some_iff.mp H
              obtain ⟨t198, A580, H⟩ := H
              replace H : ((selvagelaw03_num.f t194).bind fun t199 => (if t198 = t199 then ((selvagelaw03_sure.f k).bind fun t200 => (some t200)) else (some false))) = some r := H
              have A58 := Aside0.mk A580
              clear A580
              replace H := Option.bind_eq_some_iff.mp H
              obtain ⟨t199, A590, H⟩ := H
              replace H : (if t198 = t199 then ((selvagelaw03_sure.f k).bind fun t200 => (some t200)) else (some false)) = some r := H
              have A59 := Aside0.mk A590
              clear A590
              by_cases c60 : t198 = t199
              · rw [if_pos c60] at H
                have c60b0 : (t198 == t199) = true := beq_iff_eq.mpr c60
                have c60b1 : (t198 != t199) = false := bne_eq_false_iff_eq.mpr c60
                clear c60
                replace H := Option.bind_eq_some_iff.mp H
                obtain ⟨t200, A610, H⟩ := H
                replace H : (some t200) = some r := H
                have A61 := Aside0.mk A610
                clear A610
                obtain rfl := Option.some.inj H
                go_enter Tryd.func9, Tryd.ntmps9
                go_wp2_with (first | ((with_reducible refine gate_callee (f := 18) rfl ?_); refine goesL_ (some 26) rfl rfl Tryd.func18 (by kernel_rfl) rfl #[.slice A1 l1.length c1] rfl (by (try simp only [List.map_toArray, List.map_cons, List.map_nil]); first | done | rfl | (simp only [List.length_drop, List.length_take]; rfl)) ?_; (with_reducible refine (path_Join.calls k _ _ l1 t155 none _ ?side1 ?side2 A4.out).mono ?_); (case side1 => repeat (first | exact HR1.out | (with_reducible refine Kd.C_alloc ?_ _) | (with_reducible refine Kd.C_drewN ?_ _) | (with_reducible refine Kd.C_drew ?_))); (case side2 => exact HC1.out); rintro e w62 ⟨rfl, hb⟩; refine ⟨_, rfl, ?_⟩; have n0_ := Aside0.mk (below_step (by repeat (first | (with_reducible first | exact HB.out | apply below_alloc | apply pw_below_drewN | apply below_drew1) | exact HB.out)) hb); clear HB; have HB := n0_; clear n0_; (try clear hb); (try clear hb2); (try clear hk); (try clear hi); (try simp only [errW_none, errW_some])) | ((with_reducible refine gate_callee (f := 19) rfl ?_); refine goesL_ (some 33) rfl rfl Tryd.func19 (by kernel_rfl) rfl #[.string t155] rfl (by (try simp only [List.map_toArray, List.map_cons, List.map_nil]); first | done | rfl | (simp only [List.length_drop, List.length_take]; rfl)) ?_; (with_reducible refine (path_Parts.calls k t155 t158 none _ ?side1 A5.out).mono ?_); (case side1 => exact Glob.below hGL (by repeat (first | (with_reducible first | exact HB.out | apply below_alloc | apply pw_below_drewN | apply below_drew1) | exact HB.out))); rintro e w63 ⟨v160, rfl, ho0, hb⟩; refine ⟨_, rfl, ?_⟩; have n0_ := Aside0.mk (Kd.R_lower ho0 (below_size (by repeat (first | (with_reducible first | exact HB.out | apply below_alloc | apply pw_below_drewN | apply below_drew1) | exact HB.out)))); have n1_ := Aside0.mk (below_step (by repeat (first | (with_reducible first | exact HB.out | apply below_alloc | apply pw_below_drewN | apply below_drew1) | exact HB.out)) hb); clear HB; have HO161 := n0_; have HB := n1_; clear n0_ n1_; (try clear hb); (try clear hb2); (try clear hk); (try clear hi); (try clear ho0); (try simp only [errW_none, errW_some]); obtain ⟨Ao64, co64, eo64⟩ := Kd.R_slice HO161.out; subst eo64) | (go_at_call 23; (with_reducible refine (selvagelaw03_same.calls k _ _ t158 _ _ l1 true _ ?side1 ?side2 ?side3 ?side4 A6.out).mono ?_); (case side1 => repeat (first | exact (Kd.R_reads' HO161.out).2.2 | (with_reducible refine Kd.C_alloc ?_ _) | (with_reducible refine Kd.C_drewN ?_ _) | (with_reducible refine Kd.C_drew ?_))); (case side2 => exact (Kd.R_reads' HO161.out).2.1); (case side3 => repeat (first | exact (Kd.C_below HR1.out HB.out) | (with_reducible refine Kd.C_alloc ?_ _) | (with_reducible refine Kd.C_drewN ?_ _) | (with_reducible refine Kd.C_drew ?_))); (case side4 => exact HC1.out); rintro e w' ⟨rfl, ⟨nd, rfl⟩⟩) | ((with_reducible refine gate_callee (f := 32) rfl ?_); refine goesL_ (some 46) rfl rfl Tryd.func32 (by kernel_rfl) rfl #[.string a0] rfl (by (try simp only [List.map_toArray, List.map_cons, List.map_nil]); first | done | rfl | (simp only [List.length_drop, List.length_take]; rfl)) ?_; (with_reducible refine (path_Safe.calls k a0 t164 (some q166) _ ?side1 A8.out).mono ?_); (case side1 => exact Glob.below hGL (by repeat (first | (with_reducible first | exact HB.out | apply below_alloc | apply pw_below_drewN | apply below_drew1) | exact HB.out))); rintro e w65 ⟨rfl, hb⟩; refine ⟨_, rfl, ?_⟩; have n0_ := Aside0.mk (Kd.R_below (by (with_reducible repeat (first | apply Kd.R_alloc | apply Kd.R_drewN | apply Kd.R_drew)); exact HO161.out) hb); have n1_ := Aside0.mk (below_step (by repeat (first | (with_reducible first | exact HB.out | apply below_alloc | apply pw_below_drewN | apply below_drew1) | exact HB.out)) hb); clear HO161; clear HB; have HO161 := n0_; have HB := n1_; clear n0_ n1_; (try clear hb); (try clear hb2); (try clear hk); (try clear hi); (try simp only [errW_none, errW_some])) | ((with_reducible refine gate_callee (f := 30) rfl ?_); refine goesL_ (some 100) rfl rfl Tryd.func30 (by kernel_rfl) rfl #[.string a0, .int .i64 ji53] rfl (by (try simp only [List.map_toArray, List.map_cons, List.map_nil]); first | done | (simp only [hji53]; rfl) | rfl | (simp only [List.length_drop, List.length_take]; rfl)) ?_; (with_reducible refine (path_Strip.calls k a0 ji53 t191 none _ A54.out).mono ?_); rintro e w' ⟨rfl, ⟨nd, rfl⟩⟩; refine ⟨_, rfl, ?_⟩; (try simp only [errW_none, errW_some])) | ((with_reducible refine gate_callee (f := 30) rfl ?_); refine goesL_ (some 107) rfl rfl Tryd.func30 (by kernel_rfl) rfl #[.string a0, .int .i64 ((ji53) + 1)] rfl (by (try simp only [List.map_toArray, List.map_cons, List.map_nil]); first | done | (simp only [hji53]; rfl) | rfl | (simp only [List.length_drop, List.length_take]; rfl)) ?_; (with_reducible refine (path_Strip.calls k a0 ((ji53) + 1) t193 t194 _ A55.out).mono ?_); rintro e w' ⟨rfl, ⟨nd, rfl⟩⟩; refine ⟨_, rfl, ?_⟩; (try simp only [errW_none, errW_some])) | ((with_reducible refine gate_callee (f := 30) rfl ?_); refine goesL_ (some 114) rfl rfl Tryd.func30 (by kernel_rfl) rfl #[.string t191, .int .i64 1] rfl (by (try simp only [List.map_toArray, List.map_cons, List.map_nil]); first | done | rfl | (simp only [List.length_drop, List.length_take]; rfl)) ?_; (with_reducible refine (path_Strip.calls k t191 1 t196 t197 _ A56.out).mono ?_); rintro e w' ⟨rfl, ⟨nd, rfl⟩⟩; refine ⟨_, rfl, ?_⟩; (try simp only [errW_none, errW_some]); have CA58 := fun W (hG_ : Glob W) => selvagelaw03_num.calls t197 t198 W hG_ A58.out; try simp only [errW_none, errW_some] at CA58) | (go_at_call 16; (with_reducible refine (CA58 _ ?side1).mono ?_); (case side1 => exact Glob.below hGL (by repeat (first | (with_reducible first | exact HB.out | apply below_alloc | apply pw_below_drewN | apply below_drew1) | exact HB.out))); rintro e w66 ⟨rfl, hb⟩; have n0_ := Aside0.mk (Kd.R_below (by (with_reducible repeat (first | apply Kd.R_alloc | apply Kd.R_drewN | apply Kd.R_drew)); exact HO161.out) hb); have n1_ := Aside0.mk (below_step (by repeat (first | (with_reducible first | exact HB.out | apply below_alloc | apply pw_below_drewN | apply below_drew1) | exact HB.out)) hb); clear HO161; clear HB; have HO161 := n0_; have HB := n1_; clear n0_ n1_; (try clear hb); (try clear hb2); (try clear hk); (try clear hi); have CA59 := fun W (hG_ : Glob W) => selvagelaw03_num.calls t194 t199 W hG_ A59.out; try simp only [errW_none, errW_some] at CA59) | (go_at_call 16; (with_reducible refine (CA59 _ ?side1).mono ?_); (case side1 => exact Glob.below hGL (by repeat (first | (with_reducible first | exact HB.out | apply below_alloc | apply pw_below_drewN | apply below_drew1) | exact HB.out))); rintro e w67 ⟨rfl, hb⟩; have n0_ := Aside0.mk (Kd.R_below (by (with_reducible repeat (first | apply Kd.R_alloc | apply Kd.R_drewN | apply Kd.R_drew)); exact HO161.out) hb); have n1_ := Aside0.mk (below_step (by repeat (first | (with_reducible first | exact HB.out | apply below_alloc | apply pw_below_drewN | apply below_drew1) | exact HB.out)) hb); clear HO161; clear HB; have HO161 := n0_; have HB := n1_; clear n0_ n1_; (try clear hb); (try clear hb2); (try clear hk); (try clear hi)) | ((with_reducible refine gate_callee (f := 28) rfl ?_); refine goesL_ (some 129) rfl rfl Tryd.func28 (by kernel_rfl) rfl #[] rfl (by (try simp only [List.map_toArray, List.map_cons, List.map_nil]); first | done | rfl | (simp only [List.length_drop, List.length_take]; rfl)) ?_; (with_reducible refine (selvagelaw03_sure.calls k  t200 _ ?side1 A61.out).mono ?_); (case side1 => exact Glob.below hGL (by repeat (first | (with_reducible first | exact HB.out | apply below_alloc | apply pw_below_drewN | apply below_drew1) | exact HB.out))); rintro e w68 ⟨rfl, hb⟩; refine ⟨_, rfl, ?_⟩; have n0_ := Aside0.mk (Kd.R_below (by (with_reducible repeat (first | apply Kd.R_alloc | apply Kd.R_drewN | apply Kd.R_drew)); exact HO161.out) hb); have n1_ := Aside0.mk (below_step (by repeat (first | (with_reducible first | exact HB.out | apply below_alloc | apply pw_below_drewN | apply below_drew1) | exact HB.out)) hb); clear HO161; clear HB; have HO161 := n0_; have HB := n1_; clear n0_ n1_; (try clear hb); (try clear hb2); (try clear hk); (try clear hi)))
                go_ret
                exact ⟨by first | rfl | (simp [errW_none, errW_some] <;> rfl) | (simp only [← hji52, ← hji53]; first | rfl | (simp [errW_none, errW_some] <;> rfl)) | (simp [*, errW_none, errW_some] <;> rfl) | (simp only [i64_w, i32_w, u8_w]; first | rfl | (simp [errW_none, errW_some] <;> rfl)) | (simp only [bne_nil, beq_nil]; first | rfl | (simp <;> rfl)), by repeat (first | (with_reducible first | exact HB.out | apply below_alloc | apply pw_below_drewN | apply below_drew1) | exact HB.out)⟩
              · rw [if_neg c60] at H
                have c60b0 : (t198 == t199) = false := beq_eq_false_iff_ne.mpr c60
                have c60b1 : (t198 != t199) = true := bne_iff_ne.mpr c60
                obtain rfl := Option.some.inj H
                go_enter Tryd.func9, Tryd.ntmps9
                go_wp2_with (first | ((with_reducible refine gate_callee (f := 18) rfl ?_); refine goesL_ (some 26) rfl rfl Tryd.func18 (by kernel_rfl) rfl #[.slice A1 l1.length c1] rfl (by (try simp only [List.map_toArray, List.map_cons, List.map_nil]); first | done | rfl | (simp only [List.length_drop, List.length_take]; rfl)) ?_; (with_reducible refine (path_Join.calls k _ _ l1 t155 none _ ?side1 ?side2 A4.out).mono ?_); (case side1 => repeat (first | exact HR1.out | (with_reducible refine Kd.C_alloc ?_ _) | (with_reducible refine Kd.C_drewN ?_ _) | (with_reducible refine Kd.C_drew ?_))); (case side2 => exact HC1.out); rintro e w69 ⟨rfl, hb⟩; refine ⟨_, rfl, ?_⟩; have n0_ := Aside0.mk (below_step (by repeat (first | (with_reducible first | exact HB.out | apply below_alloc | apply pw_below_drewN | apply below_drew1) | exact HB.out)) hb); clear HB; have HB := n0_; clear n0_; (try clear hb); (try clear hb2); (try clear hk); (try clear hi); (try simp only [errW_none, errW_some])) | ((with_reducible refine gate_callee (f := 19) rfl ?_); refine goesL_ (some 33) rfl rfl Tryd.func19 (by kernel_rfl) rfl #[.string t155] rfl (by (try simp only [List.map_toArray, List.map_cons, List.map_nil]); first | done | rfl | (simp only [List.length_drop, List.length_take]; rfl)) ?_; (with_reducible refine (path_Parts.calls k t155 t158 none _ ?side1 A5.out).mono ?_); (case side1 => exact Glob.below hGL (by repeat (first | (with_reducible first | exact HB.out | apply below_alloc | apply pw_below_drewN | apply below_drew1) | exact HB.out))); rintro e w70 ⟨v160, rfl, ho0, hb⟩; refine ⟨_, rfl, ?_⟩; have n0_ := Aside0.mk (Kd.R_lower ho0 (below_size (by repeat (first | (with_reducible first | exact HB.out | apply below_alloc | apply pw_below_drewN | apply below_drew1) | exact HB.out)))); have n1_ := Aside0.mk (below_step (by repeat (first | (with_reducible first | exact HB.out | apply below_alloc | apply pw_below_drewN | apply below_drew1) | exact HB.out)) hb); clear HB; have HO161 := n0_; have HB := n1_; clear n0_ n1_; (try clear hb); (try clear hb2); (try clear hk); (try clear hi); (try clear ho0); (try simp only [errW_none, errW_some]); obtain ⟨Ao71, co71, eo71⟩ := Kd.R_slice HO161.out; subst eo71) | (go_at_call 23; (with_reducible refine (selvagelaw03_same.calls k _ _ t158 _ _ l1 true _ ?side1 ?side2 ?side3 ?side4 A6.out).mono ?_); (case side1 => repeat (first | exact (Kd.R_reads' HO161.out).2.2 | (with_reducible refine Kd.C_alloc ?_ _) | (with_reducible refine Kd.C_drewN ?_ _) | (with_reducible refine Kd.C_drew ?_))); (case side2 => exact (Kd.R_reads' HO161.out).2.1); (case side3 => repeat (first | exact (Kd.C_below HR1.out HB.out) | (with_reducible refine Kd.C_alloc ?_ _) | (with_reducible refine Kd.C_drewN ?_ _) | (with_reducible refine Kd.C_drew ?_))); (case side4 => exact HC1.out); rintro e w' ⟨rfl, ⟨nd, rfl⟩⟩) | ((with_reducible refine gate_callee (f := 32) rfl ?_); refine goesL_ (some 46) rfl rfl Tryd.func32 (by kernel_rfl) rfl #[.string a0] rfl (by (try simp only [List.map_toArray, List.map_cons, List.map_nil]); first | done | rfl | (simp only [List.length_drop, List.length_take]; rfl)) ?_; (with_reducible refine (path_Safe.calls k a0 t164 (some q166) _ ?side1 A8.out).mono ?_); (case side1 => exact Glob.below hGL (by repeat (first | (with_reducible first | exact HB.out | apply below_alloc | apply pw_below_drewN | apply below_drew1) | exact HB.out))); rintro e w72 ⟨rfl, hb⟩; refine ⟨_, rfl, ?_⟩; have n0_ := Aside0.mk (Kd.R_below (by (with_reducible repeat (first | apply Kd.R_alloc | apply Kd.R_drewN | apply Kd.R_drew)); exact HO161.out) hb); have n1_ := Aside0.mk (below_step (by repeat (first | (with_reducible first | exact HB.out | apply below_alloc | apply pw_below_drewN | apply below_drew1) | exact HB.out)) hb); clear HO161; clear HB; have HO161 := n0_; have HB := n1_; clear n0_ n1_; (try clear hb); (try clear hb2); (try clear hk); (try clear hi); (try simp only [errW_none, errW_some])) | ((with_reducible refine gate_callee (f := 30) rfl ?_); refine goesL_ (some 100) rfl rfl Tryd.func30 (by kernel_rfl) rfl #[.string a0, .int .i64 ji53] rfl (by (try simp only [List.map_toArray, List.map_cons, List.map_nil]); first | done | (simp only [hji53]; rfl) | rfl | (simp only [List.length_drop, List.length_take]; rfl)) ?_; (with_reducible refine (path_Strip.calls k a0 ji53 t191 none _ A54.out).mono ?_); rintro e w' ⟨rfl, ⟨nd, rfl⟩⟩; refine ⟨_, rfl, ?_⟩; (try simp only [errW_none, errW_some])) | ((with_reducible refine gate_callee (f := 30) rfl ?_); refine goesL_ (some 107) rfl rfl Tryd.func30 (by kernel_rfl) rfl #[.string a0, .int .i64 ((ji53) + 1)] rfl (by (try simp only [List.map_toArray, List.map_cons, List.map_nil]); first | done | (simp only [hji53]; rfl) | rfl | (simp only [List.length_drop, List.length_take]; rfl)) ?_; (with_reducible refine (path_Strip.calls k a0 ((ji53) + 1) t193 t194 _ A55.out).mono ?_); rintro e w' ⟨rfl, ⟨nd, rfl⟩⟩; refine ⟨_, rfl, ?_⟩; (try simp only [errW_none, errW_some])) | ((with_reducible refine gate_callee (f := 30) rfl ?_); refine goesL_ (some 114) rfl rfl Tryd.func30 (by kernel_rfl) rfl #[.string t191, .int .i64 1] rfl (by (try simp only [List.map_toArray, List.map_cons, List.map_nil]); first | done | rfl | (simp only [List.length_drop, List.length_take]; rfl)) ?_; (with_reducible refine (path_Strip.calls k t191 1 t196 t197 _ A56.out).mono ?_); rintro e w' ⟨rfl, ⟨nd, rfl⟩⟩; refine ⟨_, rfl, ?_⟩; (try simp only [errW_none, errW_some]); have CA58 := fun W (hG_ : Glob W) => selvagelaw03_num.calls t197 t198 W hG_ A58.out; try simp only [errW_none, errW_some] at CA58) | (go_at_call 16; (with_reducible refine (CA58 _ ?side1).mono ?_); (case side1 => exact Glob.below hGL (by repeat (first | (with_reducible first | exact HB.out | apply below_alloc | apply pw_below_drewN | apply below_drew1) | exact HB.out))); rintro e w73 ⟨rfl, hb⟩; have n0_ := Aside0.mk (Kd.R_below (by (with_reducible repeat (first | apply Kd.R_alloc | apply Kd.R_drewN | apply Kd.R_drew)); exact HO161.out) hb); have n1_ := Aside0.mk (below_step (by repeat (first | (with_reducible first | exact HB.out | apply below_alloc | apply pw_below_drewN | apply below_drew1) | exact HB.out)) hb); clear HO161; clear HB; have HO161 := n0_; have HB := n1_; clear n0_ n1_; (try clear hb); (try clear hb2); (try clear hk); (try clear hi); have CA59 := fun W (hG_ : Glob W) => selvagelaw03_num.calls t194 t199 W hG_ A59.out; try simp only [errW_none, errW_some] at CA59) | (go_at_call 16; (with_reducible refine (CA59 _ ?side1).mono ?_); (case side1 => exact Glob.below hGL (by repeat (first | (with_reducible first | exact HB.out | apply below_alloc | apply pw_below_drewN | apply below_drew1) | exact HB.out))); rintro e w74 ⟨rfl, hb⟩; have n0_ := Aside0.mk (Kd.R_below (by (with_reducible repeat (first | apply Kd.R_alloc | apply Kd.R_drewN | apply Kd.R_drew)); exact HO161.out) hb); have n1_ := Aside0.mk (below_step (by repeat (first | (with_reducible first | exact HB.out | apply below_alloc | apply pw_below_drewN | apply below_drew1) | exact HB.out)) hb); clear HO161; clear HB; have HO161 := n0_; have HB := n1_; clear n0_ n1_; (try clear hb); (try clear hb2); (try clear hk); (try clear hi)))
                go_ret
                exact ⟨by first | rfl | (simp [errW_none, errW_some] <;> rfl) | (simp only [← hji52, ← hji53]; first | rfl | (simp [errW_none, errW_some] <;> rfl)) | (simp [*, errW_none, errW_some] <;> rfl) | (simp only [i64_w, i32_w, u8_w]; first | rfl | (simp [errW_none, errW_some] <;> rfl)) | (simp only [bne_nil, beq_nil]; first | rfl | (simp <;> rfl)), by repeat (first | (with_reducible first | exact HB.out | apply below_alloc | apply pw_below_drewN | apply below_drew1) | exact HB.out)⟩
            · rw [if_neg c57] at H
              have c57b0 : (t196.toList == t193.toList) = false := beq_eq_false_iff_ne.mpr c57
              have c57b1 : (t196.toList != t193.toList) = true := bne_iff_ne.mpr c57
              obtain rfl := Option.some.inj H
              go_enter Tryd.func9, Tryd.ntmps9
              go_wp2_with (first | ((with_reducible refine gate_callee (f := 18) rfl ?_); refine goesL_ (some 26) rfl rfl Tryd.func18 (by kernel_rfl) rfl #[.slice A1 l1.length c1] rfl (by (try simp only [List.map_toArray, List.map_cons, List.map_nil]); first | done | rfl | (simp only [List.length_drop, List.length_take]; rfl)) ?_; (with_reducible refine (path_Join.calls k _ _ l1 t155 none _ ?side1 ?side2 A4.out).mono ?_); (case side1 => repeat (first | exact HR1.out | (with_reducible refine Kd.C_alloc ?_ _) | (with_reducible refine Kd.C_drewN ?_ _) | (with_reducible refine Kd.C_drew ?_))); (case side2 => exact HC1.out); rintro e w75 ⟨rfl, hb⟩; refine ⟨_, rfl, ?_⟩; have n0_ := Aside0.mk (below_step (by repeat (first | (with_reducible first | exact HB.out | apply below_alloc | apply pw_below_drewN | apply below_drew1) | exact HB.out)) hb); clear HB; have HB := n0_; clear n0_; (try clear hb); (try clear hb2); (try clear hk); (try clear hi); (try simp only [errW_none, errW_some])) | ((with_reducible refine gate_callee (f := 19) rfl ?_); refine goesL_ (some 33) rfl rfl Tryd.func19 (by kernel_rfl) rfl #[.string t155] rfl (by (try simp only [List.map_toArray, List.map_cons, List.map_nil]); first | done | rfl | (simp only [List.length_drop, List.length_take]; rfl)) ?_; (with_reducible refine (path_Parts.calls k t155 t158 none _ ?side1 A5.out).mono ?_); (case side1 => exact Glob.below hGL (by repeat (first | (with_reducible first | exact HB.out | apply below_alloc | apply pw_below_drewN | apply below_drew1) | exact HB.out))); rintro e w76 ⟨v160, rfl, ho0, hb⟩; refine ⟨_, rfl, ?_⟩; have n0_ := Aside0.mk (Kd.R_lower ho0 (below_size (by repeat (first | (with_reducible first | exact HB.out | apply below_alloc | apply pw_below_drewN | apply below_drew1) | exact HB.out)))); have n1_ := Aside0.mk (below_step (by repeat (first | (with_reducible first | exact HB.out | apply below_alloc | apply pw_below_drewN | apply below_drew1) | exact HB.out)) hb); clear HB; have HO161 := n0_; have HB := n1_; clear n0_ n1_; (try clear hb); (try clear hb2); (try clear hk); (try clear hi); (try clear ho0); (try simp only [errW_none, errW_some]); obtain ⟨Ao77, co77, eo77⟩ := Kd.R_slice HO161.out; subst eo77) | (go_at_call 23; (with_reducible refine (selvagelaw03_same.calls k _ _ t158 _ _ l1 true _ ?side1 ?side2 ?side3 ?side4 A6.out).mono ?_); (case side1 => repeat (first | exact (Kd.R_reads' HO161.out).2.2 | (with_reducible refine Kd.C_alloc ?_ _) | (with_reducible refine Kd.C_drewN ?_ _) | (with_reducible refine Kd.C_drew ?_))); (case side2 => exact (Kd.R_reads' HO161.out).2.1); (case side3 => repeat (first | exact (Kd.C_below HR1.out HB.out) | (with_reducible refine Kd.C_alloc ?_ _) | (with_reducible refine Kd.C_drewN ?_ _) | (with_reducible refine Kd.C_drew ?_))); (case side4 => exact HC1.out); rintro e w' ⟨rfl, ⟨nd, rfl⟩⟩) | ((with_reducible refine gate_callee (f := 32) rfl ?_); refine goesL_ (some 46) rfl rfl Tryd.func32 (by kernel_rfl) rfl #[.string a0] rfl (by (try simp only [List.map_toArray, List.map_cons, List.map_nil]); first | done | rfl | (simp only [List.length_drop, List.length_take]; rfl)) ?_; (with_reducible refine (path_Safe.calls k a0 t164 (some q166) _ ?side1 A8.out).mono ?_); (case side1 => exact Glob.below hGL (by repeat (first | (with_reducible first | exact HB.out | apply below_alloc | apply pw_below_drewN | apply below_drew1) | exact HB.out))); rintro e w78 ⟨rfl, hb⟩; refine ⟨_, rfl, ?_⟩; have n0_ := Aside0.mk (Kd.R_below (by (with_reducible repeat (first | apply Kd.R_alloc | apply Kd.R_drewN | apply Kd.R_drew)); exact HO161.out) hb); have n1_ := Aside0.mk (below_step (by repeat (first | (with_reducible first | exact HB.out | apply below_alloc | apply pw_below_drewN | apply below_drew1) | exact HB.out)) hb); clear HO161; clear HB; have HO161 := n0_; have HB := n1_; clear n0_ n1_; (try clear hb); (try clear hb2); (try clear hk); (try clear hi); (try simp only [errW_none, errW_some])) | ((with_reducible refine gate_callee (f := 30) rfl ?_); refine goesL_ (some 100) rfl rfl Tryd.func30 (by kernel_rfl) rfl #[.string a0, .int .i64 ji53] rfl (by (try simp only [List.map_toArray, List.map_cons, List.map_nil]); first | done | (simp only [hji53]; rfl) | rfl | (simp only [List.length_drop, List.length_take]; rfl)) ?_; (with_reducible refine (path_Strip.calls k a0 ji53 t191 none _ A54.out).mono ?_); rintro e w' ⟨rfl, ⟨nd, rfl⟩⟩; refine ⟨_, rfl, ?_⟩; (try simp only [errW_none, errW_some])) | ((with_reducible refine gate_callee (f := 30) rfl ?_); refine goesL_ (some 107) rfl rfl Tryd.func30 (by kernel_rfl) rfl #[.string a0, .int .i64 ((ji53) + 1)] rfl (by (try simp only [List.map_toArray, List.map_cons, List.map_nil]); first | done | (simp only [hji53]; rfl) | rfl | (simp only [List.length_drop, List.length_take]; rfl)) ?_; (with_reducible refine (path_Strip.calls k a0 ((ji53) + 1) t193 t194 _ A55.out).mono ?_); rintro e w' ⟨rfl, ⟨nd, rfl⟩⟩; refine ⟨_, rfl, ?_⟩; (try simp only [errW_none, errW_some])) | ((with_reducible refine gate_callee (f := 30) rfl ?_); refine goesL_ (some 114) rfl rfl Tryd.func30 (by kernel_rfl) rfl #[.string t191, .int .i64 1] rfl (by (try simp only [List.map_toArray, List.map_cons, List.map_nil]); first | done | rfl | (simp only [List.length_drop, List.length_take]; rfl)) ?_; (with_reducible refine (path_Strip.calls k t191 1 t196 t197 _ A56.out).mono ?_); rintro e w' ⟨rfl, ⟨nd, rfl⟩⟩; refine ⟨_, rfl, ?_⟩; (try simp only [errW_none, errW_some])))
              go_ret
              exact ⟨by first | rfl | (simp [errW_none, errW_some] <;> rfl) | (simp only [← hji52, ← hji53]; first | rfl | (simp [errW_none, errW_some] <;> rfl)) | (simp [*, errW_none, errW_some] <;> rfl) | (simp only [i64_w, i32_w, u8_w]; first | rfl | (simp [errW_none, errW_some] <;> rfl)) | (simp only [bne_nil, beq_nil]; first | rfl | (simp <;> rfl)), by repeat (first | (with_reducible first | exact HB.out | apply below_alloc | apply pw_below_drewN | apply below_drew1) | exact HB.out)⟩
          · have H1 : (if t194.isNone = true then (some false) else ((selvagelaw03_sure.f k).bind fun t202 => (some t202))) = some r := by rw [if_neg (show ¬ (some q195).isNone = true by simp)] at H; exact H
            clear H
            have H := H1
            clear H1
            try simp only [errW_none, errW_some]
            rcases t194 with _ | q201
            · have H1 : (some false) = some r := by rw [if_pos (show (none : Option Int).isNone = true by rfl)] at H; exact H
              clear H
              have H := H1
              clear H1
              try simp only [errW_none, errW_some]
              obtain rfl := Option.some.inj H
              go_enter Tryd.func9, Tryd.ntmps9
              go_wp2_with (first | ((with_reducible refine gate_callee (f := 18) rfl ?_); refine goesL_ (some 26) rfl rfl Tryd.func18 (by kernel_rfl) rfl #[.slice A1 l1.length c1] rfl (by (try simp only [List.map_toArray, List.map_cons, List.map_nil]); first | done | rfl | (simp only [List.length_drop, List.length_take]; rfl)) ?_; (with_reducible refine (path_Join.calls k _ _ l1 t155 none _ ?side1 ?side2 A4.out).mono ?_); (case side1 => repeat (first | exact HR1.out | (with_reducible refine Kd.C_alloc ?_ _) | (with_reducible refine Kd.C_drewN ?_ _) | (with_reducible refine Kd.C_drew ?_))); (case side2 => exact HC1.out); rintro e w79 ⟨rfl, hb⟩; refine ⟨_, rfl, ?_⟩; have n0_ := Aside0.mk (below_step (by repeat (first | (with_reducible first | exact HB.out | apply below_alloc | apply pw_below_drewN | apply below_drew1) | exact HB.out)) hb); clear HB; have HB := n0_; clear n0_; (try clear hb); (try clear hb2); (try clear hk); (try clear hi); (try simp only [errW_none, errW_some])) | ((with_reducible refine gate_callee (f := 19) rfl ?_); refine goesL_ (some 33) rfl rfl Tryd.func19 (by kernel_rfl) rfl #[.string t155] rfl (by (try simp only [List.map_toArray, List.map_cons, List.map_nil]); first | done | rfl | (simp only [List.length_drop, List.length_take]; rfl)) ?_; (with_reducible refine (path_Parts.calls k t155 t158 none _ ?side1 A5.out).mono ?_); (case side1 => exact Glob.below hGL (by repeat (first | (with_reducible first | exact HB.out | apply below_alloc | apply pw_below_drewN | apply below_drew1) | exact HB.out))); rintro e w80 ⟨v160, rfl, ho0, hb⟩; refine ⟨_, rfl, ?_⟩; have n0_ := Aside0.mk (Kd.R_lower ho0 (below_size (by repeat (first | (with_reducible first | exact HB.out | apply below_alloc | apply pw_below_drewN | apply below_drew1) | exact HB.out)))); have n1_ := Aside0.mk (below_step (by repeat (first | (with_reducible first | exact HB.out | apply below_alloc | apply pw_below_drewN | apply below_drew1) | exact HB.out)) hb); clear HB; have HO161 := n0_; have HB := n1_; clear n0_ n1_; (try clear hb); (try clear hb2); (try clear hk); (try clear hi); (try clear ho0); (try simp only [errW_none, errW_some]); obtain ⟨Ao81, co81, eo81⟩ := Kd.R_slice HO161.out; subst eo81) | (go_at_call 23; (with_reducible refine (selvagelaw03_same.calls k _ _ t158 _ _ l1 true _ ?side1 ?side2 ?side3 ?side4 A6.out).mono ?_); (case side1 => repeat (first | exact (Kd.R_reads' HO161.out).2.2 | (with_reducible refine Kd.C_alloc ?_ _) | (with_reducible refine Kd.C_drewN ?_ _) | (with_reducible refine Kd.C_drew ?_))); (case side2 => exact (Kd.R_reads' HO161.out).2.1); (case side3 => repeat (first | exact (Kd.C_below HR1.out HB.out) | (with_reducible refine Kd.C_alloc ?_ _) | (with_reducible refine Kd.C_drewN ?_ _) | (with_reducible refine Kd.C_drew ?_))); (case side4 => exact HC1.out); rintro e w' ⟨rfl, ⟨nd, rfl⟩⟩) | ((with_reducible refine gate_callee (f := 32) rfl ?_); refine goesL_ (some 46) rfl rfl Tryd.func32 (by kernel_rfl) rfl #[.string a0] rfl (by (try simp only [List.map_toArray, List.map_cons, List.map_nil]); first | done | rfl | (simp only [List.length_drop, List.length_take]; rfl)) ?_; (with_reducible refine (path_Safe.calls k a0 t164 (some q166) _ ?side1 A8.out).mono ?_); (case side1 => exact Glob.below hGL (by repeat (first | (with_reducible first | exact HB.out | apply below_alloc | apply pw_below_drewN | apply below_drew1) | exact HB.out))); rintro e w82 ⟨rfl, hb⟩; refine ⟨_, rfl, ?_⟩; have n0_ := Aside0.mk (Kd.R_below (by (with_reducible repeat (first | apply Kd.R_alloc | apply Kd.R_drewN | apply Kd.R_drew)); exact HO161.out) hb); have n1_ := Aside0.mk (below_step (by repeat (first | (with_reducible first | exact HB.out | apply below_alloc | apply pw_below_drewN | apply below_drew1) | exact HB.out)) hb); clear HO161; clear HB; have HO161 := n0_; have HB := n1_; clear n0_ n1_; (try clear hb); (try clear hb2); (try clear hk); (try clear hi); (try simp only [errW_none, errW_some])) | ((with_reducible refine gate_callee (f := 30) rfl ?_); refine goesL_ (some 100) rfl rfl Tryd.func30 (by kernel_rfl) rfl #[.string a0, .int .i64 ji53] rfl (by (try simp only [List.map_toArray, List.map_cons, List.map_nil]); first | done | (simp only [hji53]; rfl) | rfl | (simp only [List.length_drop, List.length_take]; rfl)) ?_; (with_reducible refine (path_Strip.calls k a0 ji53 t191 (some q195) _ A54.out).mono ?_); rintro e w' ⟨rfl, ⟨nd, rfl⟩⟩; refine ⟨_, rfl, ?_⟩; (try simp only [errW_none, errW_some])) | ((with_reducible refine gate_callee (f := 30) rfl ?_); refine goesL_ (some 107) rfl rfl Tryd.func30 (by kernel_rfl) rfl #[.string a0, .int .i64 ((ji53) + 1)] rfl (by (try simp only [List.map_toArray, List.map_cons, List.map_nil]); first | done | (simp only [hji53]; rfl) | rfl | (simp only [List.length_drop, List.length_take]; rfl)) ?_; (with_reducible refine (path_Strip.calls k a0 ((ji53) + 1) t193 none _ A55.out).mono ?_); rintro e w' ⟨rfl, ⟨nd, rfl⟩⟩; refine ⟨_, rfl, ?_⟩; (try simp only [errW_none, errW_some])))
              go_ret
              exact ⟨by first | rfl | (simp [errW_none, errW_some] <;> rfl) | (simp only [← hji52, ← hji53]; first | rfl | (simp [errW_none, errW_some] <;> rfl)) | (simp [*, errW_none, errW_some] <;> rfl) | (simp only [i64_w, i32_w, u8_w]; first | rfl | (simp [errW_none, errW_some] <;> rfl)) | (simp only [bne_nil, beq_nil]; first | rfl | (simp <;> rfl)), by repeat (first | (with_reducible first | exact HB.out | apply below_alloc | apply pw_below_drewN | apply below_drew1) | exact HB.out)⟩
            · have H1 : ((selvagelaw03_sure.f k).bind fun t202 => (some t202)) = some r := by rw [if_neg (show ¬ (some q201).isNone = true by simp)] at H; exact H
              clear H
              have H := H1
              clear H1
              try simp only [errW_none, errW_some]
              replace H := Option.bind_eq_some_iff.mp H
              obtain ⟨t202, A830, H⟩ := H
              replace H : (some t202) = some r := H
              have A83 := Aside0.mk A830
              clear A830
              obtain rfl := Option.some.inj H
              go_enter Tryd.func9, Tryd.ntmps9
              go_wp2_with (first | ((with_reducible refine gate_callee (f := 18) rfl ?_); refine goesL_ (some 26) rfl rfl Tryd.func18 (by kernel_rfl) rfl #[.slice A1 l1.length c1] rfl (by (try simp only [List.map_toArray, List.map_cons, List.map_nil]); first | done | rfl | (simp only [List.length_drop, List.length_take]; rfl)) ?_; (with_reducible refine (path_Join.calls k _ _ l1 t155 none _ ?side1 ?side2 A4.out).mono ?_); (case side1 => repeat (first | exact HR1.out | (with_reducible refine Kd.C_alloc ?_ _) | (with_reducible refine Kd.C_drewN ?_ _) | (with_reducible refine Kd.C_drew ?_))); (case side2 => exact HC1.out); rintro e w84 ⟨rfl, hb⟩; refine ⟨_, rfl, ?_⟩; have n0_ := Aside0.mk (below_step (by repeat (first | (with_reducible first | exact HB.out | apply below_alloc | apply pw_below_drewN | apply below_drew1) | exact HB.out)) hb); clear HB; have HB := n0_; clear n0_; (try clear hb); (try clear hb2); (try clear hk); (try clear hi); (try simp only [errW_none, errW_some])) | ((with_reducible refine gate_callee (f := 19) rfl ?_); refine goesL_ (some 33) rfl rfl Tryd.func19 (by kernel_rfl) rfl #[.string t155] rfl (by (try simp only [List.map_toArray, List.map_cons, List.map_nil]); first | done | rfl | (simp only [List.length_drop, List.length_take]; rfl)) ?_; (with_reducible refine (path_Parts.calls k t155 t158 none _ ?side1 A5.out).mono ?_); (case side1 => exact Glob.below hGL (by repeat (first | (with_reducible first | exact HB.out | apply below_alloc | apply pw_below_drewN | apply below_drew1) | exact HB.out))); rintro e w85 ⟨v160, rfl, ho0, hb⟩; refine ⟨_, rfl, ?_⟩; have n0_ := Aside0.mk (Kd.R_lower ho0 (below_size (by repeat (first | (with_reducible first | exact HB.out | apply below_alloc | apply pw_below_drewN | apply below_drew1) | exact HB.out)))); have n1_ := Aside0.mk (below_step (by repeat (first | (with_reducible first | exact HB.out | apply below_alloc | apply pw_below_drewN | apply below_drew1) | exact HB.out)) hb); clear HB; have HO161 := n0_; have HB := n1_; clear n0_ n1_; (try clear hb); (try clear hb2); (try clear hk); (try clear hi); (try clear ho0); (try simp only [errW_none, errW_some]); obtain ⟨Ao86, co86, eo86⟩ := Kd.R_slice HO161.out; subst eo86) | (go_at_call 23; (with_reducible refine (selvagelaw03_same.calls k _ _ t158 _ _ l1 true _ ?side1 ?side2 ?side3 ?side4 A6.out).mono ?_); (case side1 => repeat (first | exact (Kd.R_reads' HO161.out).2.2 | (with_reducible refine Kd.C_alloc ?_ _) | (with_reducible refine Kd.C_drewN ?_ _) | (with_reducible refine Kd.C_drew ?_))); (case side2 => exact (Kd.R_reads' HO161.out).2.1); (case side3 => repeat (first | exact (Kd.C_below HR1.out HB.out) | (with_reducible refine Kd.C_alloc ?_ _) | (with_reducible refine Kd.C_drewN ?_ _) | (with_reducible refine Kd.C_drew ?_))); (case side4 => exact HC1.out); rintro e w' ⟨rfl, ⟨nd, rfl⟩⟩) | ((with_reducible refine gate_callee (f := 32) rfl ?_); refine goesL_ (some 46) rfl rfl Tryd.func32 (by kernel_rfl) rfl #[.string a0] rfl (by (try simp only [List.map_toArray, List.map_cons, List.map_nil]); first | done | rfl | (simp only [List.length_drop, List.length_take]; rfl)) ?_; (with_reducible refine (path_Safe.calls k a0 t164 (some q166) _ ?side1 A8.out).mono ?_); (case side1 => exact Glob.below hGL (by repeat (first | (with_reducible first | exact HB.out | apply below_alloc | apply pw_below_drewN | apply below_drew1) | exact HB.out))); rintro e w87 ⟨rfl, hb⟩; refine ⟨_, rfl, ?_⟩; have n0_ := Aside0.mk (Kd.R_below (by (with_reducible repeat (first | apply Kd.R_alloc | apply Kd.R_drewN | apply Kd.R_drew)); exact HO161.out) hb); have n1_ := Aside0.mk (below_step (by repeat (first | (with_reducible first | exact HB.out | apply below_alloc | apply pw_below_drewN | apply below_drew1) | exact HB.out)) hb); clear HO161; clear HB; have HO161 := n0_; have HB := n1_; clear n0_ n1_; (try clear hb); (try clear hb2); (try clear hk); (try clear hi); (try simp only [errW_none, errW_some])) | ((with_reducible refine gate_callee (f := 30) rfl ?_); refine goesL_ (some 100) rfl rfl Tryd.func30 (by kernel_rfl) rfl #[.string a0, .int .i64 ji53] rfl (by (try simp only [List.map_toArray, List.map_cons, List.map_nil]); first | done | (simp only [hji53]; rfl) | rfl | (simp only [List.length_drop, List.length_take]; rfl)) ?_; (with_reducible refine (path_Strip.calls k a0 ji53 t191 (some q195) _ A54.out).mono ?_); rintro e w' ⟨rfl, ⟨nd, rfl⟩⟩; refine ⟨_, rfl, ?_⟩; (try simp only [errW_none, errW_some])) | ((with_reducible refine gate_callee (f := 30) rfl ?_); refine goesL_ (some 107) rfl rfl Tryd.func30 (by kernel_rfl) rfl #[.string a0, .int .i64 ((ji53) + 1)] rfl (by (try simp only [List.map_toArray, List.map_cons, List.map_nil]); first | done | (simp only [hji53]; rfl) | rfl | (simp only [List.length_drop, List.length_take]; rfl)) ?_; (with_reducible refine (path_Strip.calls k a0 ((ji53) + 1) t193 (some q201) _ A55.out).mono ?_); rintro e w' ⟨rfl, ⟨nd, rfl⟩⟩; refine ⟨_, rfl, ?_⟩; (try simp only [errW_none, errW_some])) | ((with_reducible refine gate_callee (f := 28) rfl ?_); refine goesL_ (some 129) rfl rfl Tryd.func28 (by kernel_rfl) rfl #[] rfl (by (try simp only [List.map_toArray, List.map_cons, List.map_nil]); first | done | rfl | (simp only [List.length_drop, List.length_take]; rfl)) ?_; (with_reducible refine (selvagelaw03_sure.calls k  t202 _ ?side1 A83.out).mono ?_); (case side1 => exact Glob.below hGL (by repeat (first | (with_reducible first | exact HB.out | apply below_alloc | apply pw_below_drewN | apply below_drew1) | exact HB.out))); rintro e w88 ⟨rfl, hb⟩; refine ⟨_, rfl, ?_⟩; have n0_ := Aside0.mk (Kd.R_below (by (with_reducible repeat (first | apply Kd.R_alloc | apply Kd.R_drewN | apply Kd.R_drew)); exact HO161.out) hb); have n1_ := Aside0.mk (below_step (by repeat (first | (with_reducible first | exact HB.out | apply below_alloc | apply pw_below_drewN | apply below_drew1) | exact HB.out)) hb); clear HO161; clear HB; have HO161 := n0_; have HB := n1_; clear n0_ n1_; (try clear hb); (try clear hb2); (try clear hk); (try clear hi)))
              go_ret
              exact ⟨by first | rfl | (simp [errW_none, errW_some] <;> rfl) | (simp only [← hji52, ← hji53]; first | rfl | (simp [errW_none, errW_some] <;> rfl)) | (simp [*, errW_none, errW_some] <;> rfl) | (simp only [i64_w, i32_w, u8_w]; first | rfl | (simp [errW_none, errW_some] <;> rfl)) | (simp only [bne_nil, beq_nil]; first | rfl | (simp <;> rfl)), by repeat (first | (with_reducible first | exact HB.out | apply below_alloc | apply pw_below_drewN | apply below_drew1) | exact HB.out)⟩
      · replace c7 := Bool.eq_false_iff.mpr c7
        subst c7
        have H1 : (some false) = some r := by rw [if_neg (show ¬ (false = true) by decide)] at H; exact H
        clear H
        have H := H1
        clear H1
        obtain rfl := Option.some.inj H
        go_enter Tryd.func9, Tryd.ntmps9
        go_wp2_with (first | ((with_reducible refine gate_callee (f := 18) rfl ?_); refine goesL_ (some 26) rfl rfl Tryd.func18 (by kernel_rfl) rfl #[.slice A1 l1.length c1] rfl (by (try simp only [List.map_toArray, List.map_cons, List.map_nil]); first | done | rfl | (simp only [List.length_drop, List.length_take]; rfl)) ?_; (with_reducible refine (path_Join.calls k _ _ l1 t155 none _ ?side1 ?side2 A4.out).mono ?_); (case side1 => repeat (first | exact HR1.out | (with_reducible refine Kd.C_alloc ?_ _) | (with_reducible refine Kd.C_drewN ?_ _) | (with_reducible refine Kd.C_drew ?_))); (case side2 => exact HC1.out); rintro e w89 ⟨rfl, hb⟩; refine ⟨_, rfl, ?_⟩; have n0_ := Aside0.mk (below_step (by repeat (first | (with_reducible first | exact HB.out | apply below_alloc | apply pw_below_drewN | apply below_drew1) | exact HB.out)) hb); clear HB; have HB := n0_; clear n0_; (try clear hb); (try clear hb2); (try clear hk); (try clear hi); (try simp only [errW_none, errW_some])) | ((with_reducible refine gate_callee (f := 19) rfl ?_); refine goesL_ (some 33) rfl rfl Tryd.func19 (by kernel_rfl) rfl #[.string t155] rfl (by (try simp only [List.map_toArray, List.map_cons, List.map_nil]); first | done | rfl | (simp only [List.length_drop, List.length_take]; rfl)) ?_; (with_reducible refine (path_Parts.calls k t155 t158 none _ ?side1 A5.out).mono ?_); (case side1 => exact Glob.below hGL (by repeat (first | (with_reducible first | exact HB.out | apply below_alloc | apply pw_below_drewN | apply below_drew1) | exact HB.out))); rintro e w90 ⟨v160, rfl, ho0, hb⟩; refine ⟨_, rfl, ?_⟩; have n0_ := Aside0.mk (Kd.R_lower ho0 (below_size (by repeat (first | (with_reducible first | exact HB.out | apply below_alloc | apply pw_below_drewN | apply below_drew1) | exact HB.out)))); have n1_ := Aside0.mk (below_step (by repeat (first | (with_reducible first | exact HB.out | apply below_alloc | apply pw_below_drewN | apply below_drew1) | exact HB.out)) hb); clear HB; have HO161 := n0_; have HB := n1_; clear n0_ n1_; (try clear hb); (try clear hb2); (try clear hk); (try clear hi); (try clear ho0); (try simp only [errW_none, errW_some]); obtain ⟨Ao91, co91, eo91⟩ := Kd.R_slice HO161.out; subst eo91) | (go_at_call 23; (with_reducible refine (selvagelaw03_same.calls k _ _ t158 _ _ l1 false _ ?side1 ?side2 ?side3 ?side4 A6.out).mono ?_); (case side1 => repeat (first | exact (Kd.R_reads' HO161.out).2.2 | (with_reducible refine Kd.C_alloc ?_ _) | (with_reducible refine Kd.C_drewN ?_ _) | (with_reducible refine Kd.C_drew ?_))); (case side2 => exact (Kd.R_reads' HO161.out).2.1); (case side3 => repeat (first | exact (Kd.C_below HR1.out HB.out) | (with_reducible refine Kd.C_alloc ?_ _) | (with_reducible refine Kd.C_drewN ?_ _) | (with_reducible refine Kd.C_drew ?_))); (case side4 => exact HC1.out); rintro e w' ⟨rfl, ⟨nd, rfl⟩⟩))
        go_ret
        exact ⟨by first | rfl | (simp [errW_none, errW_some] <;> rfl) | (simp [*, errW_none, errW_some] <;> rfl) | (simp only [i64_w, i32_w, u8_w]; first | rfl | (simp [errW_none, errW_some] <;> rfl)) | (simp only [bne_nil, beq_nil]; first | rfl | (simp <;> rfl)), by repeat (first | (with_reducible first | exact HB.out | apply below_alloc | apply pw_below_drewN | apply below_drew1) | exact HB.out)⟩
    · have H1 : (some false) = some r := by rw [if_neg (show ¬ (some q162).isNone = true by simp)] at H; exact H
      clear H
      have H := H1
      clear H1
      try simp only [errW_none, errW_some]
      obtain rfl := Option.some.inj H
      go_enter Tryd.func9, Tryd.ntmps9
      go_wp2_with (first | ((with_reducible refine gate_callee (f := 18) rfl ?_); refine goesL_ (some 26) rfl rfl Tryd.func18 (by kernel_rfl) rfl #[.slice A1 l1.length c1] rfl (by (try simp only [List.map_toArray, List.map_cons, List.map_nil]); first | done | rfl | (simp only [List.length_drop, List.length_take]; rfl)) ?_; (with_reducible refine (path_Join.calls k _ _ l1 t155 none _ ?side1 ?side2 A4.out).mono ?_); (case side1 => repeat (first | exact HR1.out | (with_reducible refine Kd.C_alloc ?_ _) | (with_reducible refine Kd.C_drewN ?_ _) | (with_reducible refine Kd.C_drew ?_))); (case side2 => exact HC1.out); rintro e w92 ⟨rfl, hb⟩; refine ⟨_, rfl, ?_⟩; have n0_ := Aside0.mk (below_step (by repeat (first | (with_reducible first | exact HB.out | apply below_alloc | apply pw_below_drewN | apply below_drew1) | exact HB.out)) hb); clear HB; have HB := n0_; clear n0_; (try clear hb); (try clear hb2); (try clear hk); (try clear hi); (try simp only [errW_none, errW_some])) | ((with_reducible refine gate_callee (f := 19) rfl ?_); refine goesL_ (some 33) rfl rfl Tryd.func19 (by kernel_rfl) rfl #[.string t155] rfl (by (try simp only [List.map_toArray, List.map_cons, List.map_nil]); first | done | rfl | (simp only [List.length_drop, List.length_take]; rfl)) ?_; (with_reducible refine (path_Parts.calls k t155 t158 (some q162) _ ?side1 A5.out).mono ?_); (case side1 => exact Glob.below hGL (by repeat (first | (with_reducible first | exact HB.out | apply below_alloc | apply pw_below_drewN | apply below_drew1) | exact HB.out))); rintro e w93 ⟨v160, rfl, ho0, hb⟩; refine ⟨_, rfl, ?_⟩; have n0_ := Aside0.mk (Kd.R_lower ho0 (below_size (by repeat (first | (with_reducible first | exact HB.out | apply below_alloc | apply pw_below_drewN | apply below_drew1) | exact HB.out)))); have n1_ := Aside0.mk (below_step (by repeat (first | (with_reducible first | exact HB.out | apply below_alloc | apply pw_below_drewN | apply below_drew1) | exact HB.out)) hb); clear HB; have HO161 := n0_; have HB := n1_; clear n0_ n1_; (try clear hb); (try clear hb2); (try clear hk); (try clear hi); (try clear ho0); (try simp only [errW_none, errW_some])))
      go_ret
      exact ⟨by first | rfl | (simp [errW_none, errW_some] <;> rfl) | (simp [*, errW_none, errW_some] <;> rfl) | (simp only [i64_w, i32_w, u8_w]; first | rfl | (simp [errW_none, errW_some] <;> rfl)) | (simp only [bne_nil, beq_nil]; first | rfl | (simp <;> rfl)), by repeat (first | (with_reducible first | exact HB.out | apply below_alloc | apply pw_below_drewN | apply below_drew1) | exact HB.out)⟩
  · have H1 : ((path_Safe.f k a0).bind fun bt203 => (if bt203.2.isNone = true then ((path_Safe.f k bt203.1).bind fun bt206 => ((path_Parts.f k bt203.1).bind fun bt208 => (if bt206.2.isNone = true then (if bt206.1.toList = bt203.1.toList then (if bt208.2.isNone = true then ((path_Below.f (⟨#[]⟩ : ByteArray) bt203.1).bind fun t214 => (if t214 = true then (selvagelaw03_PathBack.j2 k a0 a2 bt208.1 ((bt208.1.length : Int) == 0)) else (selvagelaw03_PathBack.j2 k a0 a2 bt208.1 true))) else (selvagelaw03_PathBack.j2 k a0 a2 bt208.1 true)) else (selvagelaw03_PathBack.j2 k a0 a2 bt208.1 true)) else (selvagelaw03_PathBack.j2 k a0 a2 bt208.1 true)))) else ((path_Strip.f k a0 (mx 0 (mn a2 20))).bind fun bt215 => ((path_Strip.f k a0 ((mx 0 (mn a2 20)) + 1)).bind fun bt217 => (if bt215.2.isNone = true then ((path_Strip.f k bt215.1 1).bind fun bt220 => (if bt220.1.toList = bt217.1.toList then ((selvagelaw03_num.f bt220.2).bind fun t222 => ((selvagelaw03_num.f bt217.2).bind fun t223 => (if t222 = t223 then ((selvagelaw03_sure.f k).bind fun t224 => (some t224)) else (some false)))) else (some false))) else (if bt217.2.isNone = true then (some false) else ((selvagelaw03_sure.f k).bind fun t226 => (some t226)))))))) = some r := by rw [if_neg (show ¬ (some q157).isNone = true by simp)] at H; exact H
    clear H
    have H := H1
    clear H1
    try simp only [errW_none, errW_some]
    replace H := Option.bind_eq_some_iff.mp H
    obtain ⟨⟨t203, t204⟩, A940, H⟩ := H
    replace H : (if t204.isNone = true then ((path_Safe.f k t203).bind fun bt206 => ((path_Parts.f k t203).bind fun bt208 => (if bt206.2.isNone = true then (if bt206.1.toList = t203.toList then (if bt208.2.isNone = true then ((path_Below.f (⟨#[]⟩ : ByteArray) t203).bind fun t214 => (if t214 = true then (selvagelaw03_PathBack.j2 k a0 a2 bt208.1 ((bt208.1.length : Int) == 0)) else (selvagelaw03_PathBack.j2 k a0 a2 bt208.1 true))) else (selvagelaw03_PathBack.j2 k a0 a2 bt208.1 true)) else (selvagelaw03_PathBack.j2 k a0 a2 bt208.1 true)) else (selvagelaw03_PathBack.j2 k a0 a2 bt208.1 true)))) else ((path_Strip.f k a0 (mx 0 (mn a2 20))).bind fun bt215 => ((path_Strip.f k a0 ((mx 0 (mn a2 20)) + 1)).bind fun bt217 => (if bt215.2.isNone = true then ((path_Strip.f k bt215.1 1).bind fun bt220 => (if bt220.1.toList = bt217.1.toList then ((selvagelaw03_num.f bt220.2).bind fun t222 => ((selvagelaw03_num.f bt217.2).bind fun t223 => (if t222 = t223 then ((selvagelaw03_sure.f k).bind fun t224 => (some t224)) else (some false)))) else (some false))) else (if bt217.2.isNone = true then (some false) else ((selvagelaw03_sure.f k).bind fun t226 => (some t226))))))) = some r := H
    have A94 := Aside0.mk A940
    clear A940
    rcases t204 with _ | q205
    · have H1 : ((path_Safe.f k t203).bind fun bt206 => ((path_Parts.f k t203).bind fun bt208 => (if bt206.2.isNone = true then (if bt206.1.toList = t203.toList then (if bt208.2.isNone = true then ((path_Below.f (⟨#[]⟩ : ByteArray) t203).bind fun t214 => (if t214 = true then (selvagelaw03_PathBack.j2 k a0 a2 bt208.1 ((bt208.1.length : Int) == 0)) else (selvagelaw03_PathBack.j2 k a0 a2 bt208.1 true))) else (selvagelaw03_PathBack.j2 k a0 a2 bt208.1 true)) else (selvagelaw03_PathBack.j2 k a0 a2 bt208.1 true)) else (selvagelaw03_PathBack.j2 k a0 a2 bt208.1 true)))) = some r := by rw [if_pos (show (none : Option Int).isNone = true by rfl)] at H; exact H
      clear H
      have H := H1
      clear H1
      try simp only [errW_none, errW_some]
      replace H := Option.bind_eq_some_iff.mp H
      obtain ⟨⟨t206, t207⟩, A950, H⟩ := H
      replace H : ((path_Parts.f k t203).bind fun bt208 => (if t207.isNone = true then (if t206.toList = t203.toList then (if bt208.2.isNone = true then ((path_Below.f (⟨#[]⟩ : ByteArray) t203).bind fun t214 => (if t214 = true then (selvagelaw03_PathBack.j2 k a0 a2 bt208.1 ((bt208.1.length : Int) == 0)) else (selvagelaw03_PathBack.j2 k a0 a2 bt208.1 true))) else (selvagelaw03_PathBack.j2 k a0 a2 bt208.1 true)) else (selvagelaw03_PathBack.j2 k a0 a2 bt208.1 true)) else (selvagelaw03_PathBack.j2 k a0 a2 bt208.1 true))) = some r := H
      have A95 := Aside0.mk A950
      clear A950
      replace H := Option.bind_eq_some_iff.mp H
      obtain ⟨⟨t208, t209⟩, A960, H⟩ := H
      replace H : (if t207.isNone = true then (if t206.toList = t203.toList then (if t209.isNone = true then ((path_Below.f (⟨#[]⟩ : ByteArray) t203).bind fun t214 => (if t214 = true then (selvagelaw03_PathBack.j2 k a0 a2 t208 ((t208.length : Int) == 0)) else (selvagelaw03_PathBack.j2 k a0 a2 t208 true))) else (selvagelaw03_PathBack.j2 k a0 a2 t208 true)) else (selvagelaw03_PathBack.j2 k a0 a2 t208 true)) else (selvagelaw03_PathBack.j2 k a0 a2 t208 true)) = some r := H
      have A96 := Aside0.mk A960
      clear A960
      have HC97 := Aside0.mk H
      clear H
      go_enter Tryd.func9, Tryd.ntmps9
      go_upto_region 10 with (first | ((with_reducible refine gate_callee (f := 18) rfl ?_); refine goesL_ (some 26) rfl rfl Tryd.func18 (by kernel_rfl) rfl #[.slice A1 l1.length c1] rfl (by (try simp only [List.map_toArray, List.map_cons, List.map_nil]); first | done | rfl | (simp only [List.length_drop, List.length_take]; rfl)) ?_; (with_reducible refine (path_Join.calls k _ _ l1 t155 (some q157) _ ?side1 ?side2 A4.out).mono ?_); (case side1 => repeat (first | exact HR1.out | (with_reducible refine Kd.C_alloc ?_ _) | (with_reducible refine Kd.C_drewN ?_ _) | (with_reducible refine Kd.C_drew ?_))); (case side2 => exact HC1.out); rintro e w98 ⟨rfl, hb⟩; refine ⟨_, rfl, ?_⟩; have n0_ := Aside0.mk (below_step (by repeat (first | (with_reducible first | exact HB.out | apply below_alloc | apply pw_below_drewN | apply below_drew1) | exact HB.out)) hb); clear HB; have HB := n0_; clear n0_; (try clear hb); (try clear hb2); (try clear hk); (try clear hi); (try simp only [errW_none, errW_some])) | ((with_reducible refine gate_callee (f := 32) rfl ?_); refine goesL_ (some 46) rfl rfl Tryd.func32 (by kernel_rfl) rfl #[.string a0] rfl (by (try simp only [List.map_toArray, List.map_cons, List.map_nil]); first | done | rfl | (simp only [List.length_drop, List.length_take]; rfl)) ?_; (with_reducible refine (path_Safe.calls k a0 t203 none _ ?side1 A94.out).mono ?_); (case side1 => exact Glob.below hGL (by repeat (first | (with_reducible first | exact HB.out | apply below_alloc | apply pw_below_drewN | apply below_drew1) | exact HB.out))); rintro e w99 ⟨rfl, hb⟩; refine ⟨_, rfl, ?_⟩; have n0_ := Aside0.mk (below_step (by repeat (first | (with_reducible first | exact HB.out | apply below_alloc | apply pw_below_drewN | apply below_drew1) | exact HB.out)) hb); clear HB; have HB := n0_; clear n0_; (try clear hb); (try clear hb2); (try clear hk); (try clear hi); (try simp only [errW_none, errW_some])) | ((with_reducible refine gate_callee (f := 32) rfl ?_); refine goesL_ (some 53) rfl rfl Tryd.func32 (by kernel_rfl) rfl #[.string t203] rfl (by (try simp only [List.map_toArray, List.map_cons, List.map_nil]); first | done | rfl | (simp only [List.length_drop, List.length_take]; rfl)) ?_; (with_reducible refine (path_Safe.calls k t203 t206 t207 _ ?side1 A95.out).mono ?_); (case side1 => exact Glob.below hGL (by repeat (first | (with_reducible first | exact HB.out | apply below_alloc | apply pw_below_drewN | apply below_drew1) | exact HB.out))); rintro e w100 ⟨rfl, hb⟩; refine ⟨_, rfl, ?_⟩; have n0_ := Aside0.mk (below_step (by repeat (first | (with_reducible first | exact HB.out | apply below_alloc | apply pw_below_drewN | apply below_drew1) | exact HB.out)) hb); clear HB; have HB := n0_; clear n0_; (try clear hb); (try clear hb2); (try clear hk); (try clear hi); (try simp only [errW_none, errW_some])) | ((with_reducible refine gate_callee (f := 19) rfl ?_); refine goesL_ (some 58) rfl rfl Tryd.func19 (by kernel_rfl) rfl #[.string t203] rfl (by (try simp only [List.map_toArray, List.map_cons, List.map_nil]); first | done | rfl | (simp only [List.length_drop, List.length_take]; rfl)) ?_; (with_reducible refine (path_Parts.calls k t203 t208 t209 _ ?side1 A96.out).mono ?_); (case side1 => exact Glob.below hGL (by repeat (first | (with_reducible first | exact HB.out | apply below_alloc | apply pw_below_drewN | apply below_drew1) | exact HB.out))); rintro e w101 ⟨v210, rfl, ho0, hb⟩; refine ⟨_, rfl, ?_⟩; have n0_ := Aside0.mk (Kd.R_lower ho0 (below_size (by repeat (first | (with_reducible first | exact HB.out | apply below_alloc | apply pw_below_drewN | apply below_drew1) | exact HB.out)))); have n1_ := Aside0.mk (below_step (by repeat (first | (with_reducible first | exact HB.out | apply below_alloc | apply pw_below_drewN | apply below_drew1) | exact HB.out)) hb); clear HB; have HO211 := n0_; have HB := n1_; clear n0_ n1_; (try clear hb); (try clear hb2); (try clear hk); (try clear hi); (try clear ho0); (try simp only [errW_none, errW_some])))
      (try simp only [Act.put, List.setIfInBounds_toArray, List.set_cons_zero, List.set_cons_succ])
      go_cut [81] (fun v81 wc => ∃ (kq : Nat) (x81_96 : Bool), v81 = .bool x81_96 ∧ Aside0 (selvagelaw03_PathBack.j2 kq a0 a2 t208 x81_96 = some r) ∧ Aside0 (kq ≤ k) ∧ Aside0 (Kd.R Kd.string 9 wc w.heap.size (fun _ => True) v210 t208) ∧ Aside0 (Below w.heap.size w wc))
      case first =>
        have H := HC97.out
        clear HC97
        rcases t207 with _ | q212
        · have H1 : (if t206.toList = t203.toList then (if t209.isNone = true then ((path_Below.f (⟨#[]⟩ : ByteArray) t203).bind fun t214 => (if t214 = true then (selvagelaw03_PathBack.j2 k a0 a2 t208 ((t208.length : Int) == 0)) else (selvagelaw03_PathBack.j2 k a0 a2 t208 true))) else (selvagelaw03_PathBack.j2 k a0 a2 t208 true)) else (selvagelaw03_PathBack.j2 k a0 a2 t208 true)) = some r := by rw [if_pos (show (none : Option Int).isNone = true by rfl)] at H; exact H
          clear H
          have H := H1
          clear H1
          try simp only [errW_none, errW_some]
          by_cases c102 : t206.toList = t203.toList
          · rw [if_pos c102] at H
            have c102b0 : (t206.toList == t203.toList) = true := beq_iff_eq.mpr c102
            have c102b1 : (t206.toList != t203.toList) = false := bne_eq_false_iff_eq.mpr c102
            clear c102
            (first | rw [c102b0] | (simp only [i64_w, i32_w]; rw [c102b0]) | skip)
            rcases t209 with _ | q213
            · have H1 : ((path_Below.f (⟨#[]⟩ : ByteArray) t203).bind fun t214 => (if t214 = true then (selvagelaw03_PathBack.j2 k a0 a2 t208 ((t208.length : Int) == 0)) else (selvagelaw03_PathBack.j2 k a0 a2 t208 true))) = some r := by rw [if_pos (show (none : Option Int).isNone = true by rfl)] at H; exact H
              clear H
              have H := H1
              clear H1
              try simp only [errW_none, errW_some]
              replace H := Option.bind_eq_some_iff.mp H
              obtain ⟨t214, A1030, H⟩ := H
              replace H : (if t214 = true then (selvagelaw03_PathBack.j2 k a0 a2 t208 ((t208.length : Int) == 0)) else (selvagelaw03_PathBack.j2 k a0 a2 t208 true)) = some r := H
              have A103 := Aside0.mk A1030
              clear A1030
              by_cases c104 : t214 = true
              · subst c104
                have H1 : (selvagelaw03_PathBack.j2 k a0 a2 t208 ((t208.length : Int) == 0)) = some r := by rw [if_pos rfl] at H; exact H
                clear H
                have H := H1
                clear H1
                have H' := Aside0.mk H
                clear H
                go_wp2_with (first | (go_at_call 34; (with_reducible refine (path_Below.calls (⟨#[]⟩ : ByteArray) t203 true _ A103.out).mono ?_); rintro e w' ⟨rfl, ⟨nd, rfl⟩⟩; obtain ⟨Ao105, co105, eo105⟩ := Kd.R_slice HO211.out; subst eo105))
                go_meet
                case rel => exact ⟨_, (((t208.length : Int) == 0)), (by first | rfl | (simp; done) | (simp [*]; done) | (simp [*] <;> rfl)), H', ⟨by first | omega | exact Nat.le_refl _⟩, ⟨by (with_reducible repeat (first | apply Kd.R_alloc | apply Kd.R_drewN | apply Kd.R_drew)); (first | exact HO211.out | exact Kd.R_mono HO211.out (fun k_ h_ h2_ => h_ (h2_.trans ((fun (A_ : Option Addr) (n_ m_ c_ : Nat) => (show (Value.slice A_ n_ c_).ownBlock = (Value.slice A_ m_ c_).ownBlock by cases A_ <;> rfl)) _ _ _ _))))⟩, ⟨by repeat (first | (with_reducible first | exact HB.out | apply below_alloc | apply pw_below_drewN | apply below_drew1) | exact HB.out)⟩⟩
              · replace c104 := Bool.eq_false_iff.mpr c104
                subst c104
                have H1 : (selvagelaw03_PathBack.j2 k a0 a2 t208 true) = some r := by rw [if_neg (show ¬ (false = true) by decide)] at H; exact H
                clear H
                have H := H1
                clear H1
                have H' := Aside0.mk H
                clear H
                go_wp2_with (first | (go_at_call 34; (with_reducible refine (path_Below.calls (⟨#[]⟩ : ByteArray) t203 false _ A103.out).mono ?_); rintro e w' ⟨rfl, ⟨nd, rfl⟩⟩))
                go_meet
                case rel => exact ⟨_, (true), (by first | rfl | (simp; done) | (simp [*]; done) | (simp [*] <;> rfl)), H', ⟨by first | omega | exact Nat.le_refl _⟩, ⟨by (with_reducible repeat (first | apply Kd.R_alloc | apply Kd.R_drewN | apply Kd.R_drew)); (first | exact HO211.out | exact Kd.R_mono HO211.out (fun k_ h_ h2_ => h_ (h2_.trans ((fun (A_ : Option Addr) (n_ m_ c_ : Nat) => (show (Value.slice A_ n_ c_).ownBlock = (Value.slice A_ m_ c_).ownBlock by cases A_ <;> rfl)) _ _ _ _))))⟩, ⟨by repeat (first | (with_reducible first | exact HB.out | apply below_alloc | apply pw_below_drewN | apply below_drew1) | exact HB.out)⟩⟩
            · have H1 : (selvagelaw03_PathBack.j2 k a0 a2 t208 true) = some r := by rw [if_neg (show ¬ (some q213).isNone = true by simp)] at H; exact H
              clear H
              have H := H1
              clear H1
              try simp only [errW_none, errW_some]
              have H' := Aside0.mk H
              clear H
              go_wp2
              go_meet
              case rel => exact ⟨_, (true), (by first | rfl | (simp; done) | (simp [*]; done) | (simp [*] <;> rfl)), H', ⟨by first | omega | exact Nat.le_refl _⟩, ⟨by (with_reducible repeat (first | apply Kd.R_alloc | apply Kd.R_drewN | apply Kd.R_drew)); (first | exact HO211.out | exact Kd.R_mono HO211.out (fun k_ h_ h2_ => h_ (h2_.trans ((fun (A_ : Option Addr) (n_ m_ c_ : Nat) => (show (Value.slice A_ n_ c_).ownBlock = (Value.slice A_ m_ c_).ownBlock by cases A_ <;> rfl)) _ _ _ _))))⟩, ⟨by repeat (first | (with_reducible first | exact HB.out | apply below_alloc | apply pw_below_drewN | apply below_drew1) | exact HB.out)⟩⟩
          · rw [if_neg c102] at H
            have c102b0 : (t206.toList == t203.toList) = false := beq_eq_false_iff_ne.mpr c102
            have c102b1 : (t206.toList != t203.toList) = true := bne_iff_ne.mpr c102
            (first | rw [c102b0] | (simp only [i64_w, i32_w]; rw [c102b0]) | skip)
            have H' := Aside0.mk H
            clear H
            go_wp2
            go_meet
            case rel => exact ⟨_, (true), (by first | rfl | (simp; done) | (simp [*]; done) | (simp [*] <;> rfl)), H', ⟨by first | omega | exact Nat.le_refl _⟩, ⟨by (with_reducible repeat (first | apply Kd.R_alloc | apply Kd.R_drewN | apply Kd.R_drew)); (first | exact HO211.out | exact Kd.R_mono HO211.out (fun k_ h_ h2_ => h_ (h2_.trans ((fun (A_ : Option Addr) (n_ m_ c_ : Nat) => (show (Value.slice A_ n_ c_).ownBlock = (Value.slice A_ m_ c_).ownBlock by cases A_ <;> rfl)) _ _ _ _))))⟩, ⟨by repeat (first | (with_reducible first | exact HB.out | apply below_alloc | apply pw_below_drewN | apply below_drew1) | exact HB.out)⟩⟩
        · have H1 : (selvagelaw03_PathBack.j2 k a0 a2 t208 true) = some r := by rw [if_neg (show ¬ (some q212).isNone = true by simp)] at H; exact H
          clear H
          have H := H1
          clear H1
          try simp only [errW_none, errW_some]
          have H' := Aside0.mk H
          clear H
          go_wp2
          go_meet
          case rel => exact ⟨_, (true), (by first | rfl | (simp; done) | (simp [*]; done) | (simp [*] <;> rfl)), H', ⟨by first | omega | exact Nat.le_refl _⟩, ⟨by (with_reducible repeat (first | apply Kd.R_alloc | apply Kd.R_drewN | apply Kd.R_drew)); (first | exact HO211.out | exact Kd.R_mono HO211.out (fun k_ h_ h2_ => h_ (h2_.trans ((fun (A_ : Option Addr) (n_ m_ c_ : Nat) => (show (Value.slice A_ n_ c_).ownBlock = (Value.slice A_ m_ c_).ownBlock by cases A_ <;> rfl)) _ _ _ _))))⟩, ⟨by repeat (first | (with_reducible first | exact HB.out | apply below_alloc | apply pw_below_drewN | apply below_drew1) | exact HB.out)⟩⟩
      case rest =>
        clear HC97
        try clear c1
        try clear p1
        try clear q1
        try clear hx1
        try clear c2
        try clear p2
        try clear q2
        try clear c3
        try clear c5
        try clear c6
        try clear p6
        try clear c7
        try clear c9
        try clear c10
        try clear q15
        try clear q16
        try clear p17
        try clear q17
        try clear hx17
        try clear c18
        try clear c18b0
        try clear c18b1
        try clear q18
        try clear c19
        try clear q19
        try clear c20
        try clear q20
        try clear c21
        try clear q21
        try clear c22
        try clear c23
        try clear c23b0
        try clear c24
        try clear c24b0
        try clear c28
        try clear c30
        try clear c32
        try clear c35
        try clear c35b0
        try clear c35b1
        try clear c38
        try clear c38b0
        try clear c38b1
        try clear c57
        try clear c57b0
        try clear c57b1
        try clear c60
        try clear c60b0
        try clear c60b1
        try clear p64
        try clear c102
        try clear c102b0
        try clear c102b1
        try clear c104
        try clear hx176_0
        try clear p176
        try clear p2
        try clear q1
        try clear q15
        try clear q157
        try clear q16
        try clear q162
        try clear q166
        try clear q17
        try clear q173
        try clear q174
        try clear q176
        try clear q178
        try clear q183
        try clear q189
        try clear q195
        try clear q201
        try clear q205
        try clear q212
        try clear q213
        obtain ⟨kq, x81_96, rfl, HA, HJ96, HO_15, HB⟩ := hcut
        cases kq with
        | zero => exact absurd HA.out (by simp [selvagelaw03_PathBack.j2])
        | succ kj96 =>
          have H := HA.out
          clear HA
          simp only [selvagelaw03_PathBack.j2] at H
          by_cases c106 : x81_96 = true
          · subst c106
            have H1 : (some false) = some r := by rw [if_pos rfl] at H; exact H
            clear H
            have H := H1
            clear H1
            obtain rfl := Option.some.inj H
            go_wp2
            go_ret
            exact ⟨by first | rfl | (simp [errW_none, errW_some] <;> rfl) | (simp [*, errW_none, errW_some] <;> rfl) | (simp only [i64_w, i32_w, u8_w]; first | rfl | (simp [errW_none, errW_some] <;> rfl)) | (simp only [bne_nil, beq_nil]; first | rfl | (simp <;> rfl)), by repeat (first | (with_reducible first | exact HB.out | apply below_alloc | apply pw_below_drewN | apply below_drew1) | exact HB.out)⟩
          · replace c106 := Bool.eq_false_iff.mpr c106
            subst c106
            have H1 : (selvagelaw03_PathBack.l0 kj96 a0 a2 t208 0) = some r := by rw [if_neg (show ¬ (false = true) by decide)] at H; exact H
            clear H
            have H := H1
            clear H1
            have H' := Aside0.mk H
            clear H
            go_wp2
            go_loopg [17] kj96 (fun kq v17 w' => ∃ (x17_2 : Int), v17 = .int .i64 x17_2 ∧ Aside0 (selvagelaw03_PathBack.l0 kq a0 a2 t208 x17_2 = some r) ∧ Aside0 (kq ≤ kj96) ∧ Aside0 (Kd.R Kd.string 9 w' w.heap.size (fun _ => True) v210 t208) ∧ Aside0 (Below w.heap.size w w'))
            case atStart => exact ⟨(0), (by first | rfl | (simp; done) | (simp [*]; done) | (simp [*] <;> rfl)), H', ⟨Nat.le_refl _⟩, ⟨by (with_reducible repeat (first | apply Kd.R_alloc | apply Kd.R_drewN | apply Kd.R_drew)); (first | exact HO_15.out | exact Kd.R_mono HO_15.out (fun k_ h_ h2_ => h_ (h2_.trans ((fun (A_ : Option Addr) (n_ m_ c_ : Nat) => (show (Value.slice A_ n_ c_).ownBlock = (Value.slice A_ m_ c_).ownBlock by cases A_ <;> rfl)) _ _ _ _))))⟩, ⟨by repeat (first | (with_reducible first | exact HB.out | apply below_alloc | apply pw_below_drewN | apply below_drew1) | exact HB.out)⟩⟩
            case round =>
              clear H'
              try clear c1
              try clear p1
              try clear q1
              try clear hx1
              try clear c2
              try clear p2
              try clear q2
              try clear c3
              try clear c5
              try clear c6
              try clear p6
              try clear c7
              try clear c9
              try clear c10
              try clear q15
              try clear q16
              try clear p17
              try clear q17
              try clear hx17
              try clear c18
              try clear c18b0
              try clear c18b1
              try clear q18
              try clear c19
              try clear q19
              try clear c20
              try clear q20
              try clear c21
              try clear q21
              try clear c22
              try clear c23
              try clear c23b0
              try clear c24
              try clear c24b0
              try clear c28
              try clear c30
              try clear c32
              try clear c35
              try clear c35b0
              try clear c35b1
              try clear c38
              try clear c38b0
              try clear c38b1
              try clear c57
              try clear c57b0
              try clear c57b1
              try clear c60
              try clear c60b0
              try clear c60b1
              try clear p64
              try clear c102
              try clear c102b0
              try clear c102b1
              try clear c104
              try clear c106
              try clear hx176_0
              try clear p1
              try clear p17
              try clear p176
              try clear p2
              try clear p6
              try clear p64
              try clear q1
              try clear q15
              try clear q157
              try clear q16
              try clear q162
              try clear q166
              try clear q17
              try clear q173
              try clear q174
              try clear q176
              try clear q178
              try clear q18
              try clear q183
              try clear q189
              try clear q19
              try clear q195
              try clear q2
              try clear q20
              try clear q201
              try clear q205
              try clear q21
              try clear q212
              try clear q213
              obtain ⟨x17_2, rfl, HA, HK2, HO_15, HB⟩ := hrel
              cases gk with
              | zero => exact absurd HA.out (by simp [selvagelaw03_PathBack.l0])
              | succ k2 =>
                have H := HA.out
                clear HA
                simp only [selvagelaw03_PathBack.l0] at H
                by_cases c107 : x17_2 < (t208.length : Int)
                · rw [if_pos c107] at H
                  have c107b0 : decide (x17_2 < (t208.length : Int)) = true := decide_eq_true c107
                  clear c107
                  by_cases c108 : 0 ≤ x17_2
                  · rw [if_pos c108] at H
                    have c108b0 : decide (0 ≤ x17_2) = true := decide_eq_true c108
                    clear c108
                    replace H := Option.bind_eq_some_iff.mp H
                    obtain ⟨t177, A1090, H⟩ := H
                    replace H : (if t177.isNone = true then (selvagelaw03_PathBack.l0 k2 a0 a2 t208 (wrap64 (x17_2 + 1))) else (some false)) = some r := H
                    have A109 := Aside0.mk A1090
                    clear A1090
                    rcases t177 with _ | q178
                    · have H1 : (selvagelaw03_PathBack.l0 k2 a0 a2 t208 (wrap64 (x17_2 + 1))) = some r := by rw [if_pos (show (none : Option Int).isNone = true by rfl)] at H; exact H
                      clear H
                      have H := H1
                      clear H1
                      try simp only [errW_none, errW_some]
                      have H' := Aside0.mk H
                      clear H
                      obtain ⟨Ao110, co110, eo110⟩ := Kd.R_slice HO_15.out
                      subst eo110
                      have p176 : 0 ≤ (x17_2 : Int) := of_decide_eq_true (by first | (with_reducible assumption) | assumption)
                      have q176 : x17_2 < (t208.length : Int) := of_decide_eq_true (by first | (with_reducible assumption) | assumption)
                      obtain ⟨ad176, e176, hx176_0⟩ := Kd.at_string (Kd.R_reads' HO_15.out).2.2 x17_2 p176 q176
                      cases e176
                      replace p176 := eq_true p176
                      replace q176 := eq_true q176
                      go_wp2_with (first | ((with_reducible refine gate_callee (f := 21) rfl ?_); refine goesL_ (some 92) rfl rfl Tryd.func21 (by kernel_rfl) rfl #[.string (rdOf ByteArray.empty t208 x17_2)] rfl (by (try simp only [List.map_toArray, List.map_cons, List.map_nil]); first | done | rfl | (simp only [List.length_drop, List.length_take]; rfl)) ?_; (with_reducible refine (path_Name.calls (rdOf ByteArray.empty t208 x17_2) none _ A109.out).mono ?_); rintro e w111 ⟨rfl, hb⟩; refine ⟨_, rfl, ?_⟩; have n0_ := Aside0.mk (Kd.R_below (by (with_reducible repeat (first | apply Kd.R_alloc | apply Kd.R_drewN | apply Kd.R_drew)); exact HO_15.out) hb); have n1_ := Aside0.mk (below_step (by repeat (first | (with_reducible first | exact HB.out | apply below_alloc | apply pw_below_drewN | apply below_drew1) | exact HB.out)) hb); clear HO_15; clear HB; have HO_15 := n0_; have HB := n1_; clear n0_ n1_; (try clear hb); (try clear hb2); (try clear hk); (try clear hi); (try simp only [errW_none, errW_some])))
                      go_roundg k2
                      case measure => have := HJ96.out; have := HK2.out; omega
                      case rel => exact ⟨(wrap64 (x17_2 + 1)), (by first | rfl | (simp; done) | (simp [*]; done) | (simp [*] <;> rfl)), H', ⟨by have := HJ96.out; have := HK2.out; omega⟩, ⟨by (with_reducible repeat (first | apply Kd.R_alloc | apply Kd.R_drewN | apply Kd.R_drew)); (first | exact HO_15.out | exact Kd.R_mono HO_15.out (fun k_ h_ h2_ => h_ (h2_.trans ((fun (A_ : Option Addr) (n_ m_ c_ : Nat) => (show (Value.slice A_ n_ c_).ownBlock = (Value.slice A_ m_ c_).ownBlock by cases A_ <;> rfl)) _ _ _ _))))⟩, ⟨by repeat (first | (with_reducible first | exact HB.out | apply below_alloc | apply pw_below_drewN | apply below_drew1) | exact HB.out)⟩⟩
                    · have H1 : (some false) = some r := by rw [if_neg (show ¬ (some q178).isNone = true by simp)] at H; exact H
                      clear H
                      have H := H1
                      clear H1
                      try simp only [errW_none, errW_some]
                      obtain rfl := Option.some.inj H
                      obtain ⟨Ao112, co112, eo112⟩ := Kd.R_slice HO_15.out
                      subst eo112
                      have p176 : 0 ≤ (x17_2 : Int) := of_decide_eq_true (by first | (with_reducible assumption) | assumption)
                      have q176 : x17_2 < (t208.length : Int) := of_decide_eq_true (by first | (with_reducible assumption) | assumption)
                      obtain ⟨ad176, e176, hx176_0⟩ := Kd.at_string (Kd.R_reads' HO_15.out).2.2 x17_2 p176 q176
                      cases e176
                      replace p176 := eq_true p176
                      replace q176 := eq_true q176
                      go_wp2_with (first | ((with_reducible refine gate_callee (f := 21) rfl ?_); refine goesL_ (some 92) rfl rfl Tryd.func21 (by kernel_rfl) rfl #[.string (rdOf ByteArray.empty t208 x17_2)] rfl (by (try simp only [List.map_toArray, List.map_cons, List.map_nil]); first | done | rfl | (simp only [List.length_drop, List.length_take]; rfl)) ?_; (with_reducible refine (path_Name.calls (rdOf ByteArray.empty t208 x17_2) (some q178) _ A109.out).mono ?_); rintro e w113 ⟨rfl, hb⟩; refine ⟨_, rfl, ?_⟩; have n0_ := Aside0.mk (Kd.R_below (by (with_reducible repeat (first | apply Kd.R_alloc | apply Kd.R_drewN | apply Kd.R_drew)); exact HO_15.out) hb); have n1_ := Aside0.mk (below_step (by repeat (first | (with_reducible first | exact HB.out | apply below_alloc | apply pw_below_drewN | apply below_drew1) | exact HB.out)) hb); clear HO_15; clear HB; have HO_15 := n0_; have HB := n1_; clear n0_ n1_; (try clear hb); (try clear hb2); (try clear hk); (try clear hi); (try simp only [errW_none, errW_some])))
                      go_ret
                      exact ⟨by first | rfl | (simp [errW_none, errW_some] <;> rfl) | (simp [*, errW_none, errW_some] <;> rfl) | (simp only [i64_w, i32_w, u8_w]; first | rfl | (simp [errW_none, errW_some] <;> rfl)) | (simp only [bne_nil, beq_nil]; first | rfl | (simp <;> rfl)), by repeat (first | (with_reducible first | exact HB.out | apply below_alloc | apply pw_below_drewN | apply below_drew1) | exact HB.out)⟩
                  · rw [if_neg c108] at H
                    exact absurd H (by simp)
                · rw [if_neg c107] at H
                  have c107b0 : decide (x17_2 < (t208.length : Int)) = false := decide_eq_false c107
                  clear c107
                  obtain ⟨ji114, hji114⟩ : ∃ j_ : Int, (mn a2 20) = j_ := ⟨_, rfl⟩
                  replace H : ((path_Strip.f k2 a0 (mx 0 (ji114))).bind fun bt179 => ((path_Strip.f k2 a0 ((mx 0 (ji114)) + 1)).bind fun bt181 => (if bt179.2.isNone = true then ((path_Strip.f k2 bt179.1 1).bind fun bt184 => (if bt184.1.toList = bt181.1.toList then ((selvagelaw03_num.f bt184.2).bind fun t186 => ((selvagelaw03_num.f bt181.2).bind fun t187 => (if t186 = t187 then ((selvagelaw03_sure.f k2).bind fun t188 => (some t188)) else (some false)))) else (some false))) else (if bt181.2.isNone = true then (some false) else ((selvagelaw03_sure.f k2).bind fun t190 => (some t190)))))) = some r := by first | (rw [hji114] at H; exact H) | (simp only [hji114] at H ⊢; exact H)
                  (try (have hji114h : ji114 ≤ 20 := by (rw [← hji114]; unfold mn; (repeat' split) <;> omega)))
                  (try (have hji114g : ji114 ≤ 64 := by omega))
                  have hji114_ : (if 20 < a2 then 20 else a2) = ji114 := hji114
                  obtain ⟨ji115, hji115⟩ : ∃ j_ : Int, (mx 0 (ji114)) = j_ := ⟨_, rfl⟩
                  replace H : ((path_Strip.f k2 a0 (ji115)).bind fun bt179 => ((path_Strip.f k2 a0 ((ji115) + 1)).bind fun bt181 => (if bt179.2.isNone = true then ((path_Strip.f k2 bt179.1 1).bind fun bt184 => (if bt184.1.toList = bt181.1.toList then ((selvagelaw03_num.f bt184.2).bind fun t186 => ((selvagelaw03_num.f bt181.2).bind fun t187 => (if t186 = t187 then ((selvagelaw03_sure.f k2).bind fun t188 => (some t188)) else (some false)))) else (some false))) else (if bt181.2.isNone = true then (some false) else ((selvagelaw03_sure.f k2).bind fun t190 => (some t190)))))) = some r := by first | (rw [hji115] at H; exact H) | (simp only [hji115] at H ⊢; exact H)
                  have hji115_ : (if 0 < (ji114) then (ji114) else 0) = ji115 := hji115
                  replace H := Option.bind_eq_some_iff.mp H
                  obtain ⟨⟨t179, t180⟩, A1160, H⟩ := H
                  replace H : ((path_Strip.f k2 a0 ((ji115) + 1)).bind fun bt181 => (if t180.isNone = true then ((path_Strip.f k2 t179 1).bind fun bt184 => (if bt184.1.toList = bt181.1.toList then ((selvagelaw03_num.f bt184.2).bind fun t186 => ((selvagelaw03_num.f bt181.2).bind fun t187 => (if t186 = t187 then ((selvagelaw03_sure.f k2).bind fun t188 => (some t188)) else (some false)))) else (some false))) else (if bt181.2.isNone = true then (some false) else ((selvagelaw03_sure.f k2).bind fun t190 => (some t190))))) = some r := H
                  have A116 := Aside0.mk A1160
                  clear A1160
                  replace H := Option.bind_eq_some_iff.mp H
                  obtain ⟨⟨t181, t182⟩, A1170, H⟩ := H
                  replace H : (if t180.isNone = true then ((path_Strip.f k2 t179 1).bind fun bt184 => (if bt184.1.toList = t181.toList then ((selvagelaw03_num.f bt184.2).bind fun t186 => ((selvagelaw03_num.f t182).bind fun t187 => (if t186 = t187 then ((selvagelaw03_sure.f k2).bind fun t188 => (some t188)) else (some false)))) else (some false))) else (if t182.isNone = true then (some false) else ((selvagelaw03_sure.f k2).bind fun t190 => (some t190)))) = some r := H
                  have A117 := Aside0.mk A1170
                  clear A1170
                  rcases t180 with _ | q183
                  · have H1 : ((path_Strip.f k2 t179 1).bind fun bt184 => (if bt184.1.toList = t181.toList then ((selvagelaw03_num.f bt184.2).bind fun t186 => ((selvagelaw03_num.f t182).bind fun t187 => (if t186 = t187 then ((selvagelaw03_sure.f k2).bind fun t188 => (some t188)) else (some false)))) else (some false))) = some r := by rw [if_pos (show (none : Option Int).isNone = true by rfl)] at H; exact H
                    clear H
                    have H := H1
                    clear H1
                    try simp only [errW_none, errW_some]
                    replace H := Option.bind_eq_some_iff.mp H
                    obtain ⟨⟨t184, t185⟩, A1180, H⟩ := H
                    replace H : (if t184.toList = t181.toList then ((selvagelaw03_num.f t185).bind fun t186 => ((selvagelaw03_num.f t182).bind fun t187 => (if t186 = t187 then ((selvagelaw03_sure.f k2).bind fun t188 => (some t188)) else (some false)))) else (some false)) = some r := H
                    have A118 := Aside0.mk A1180
                    clear A1180
                    by_cases c119 : t184.toList = t181.toList
                    · rw [if_pos c119] at H
                      have c119b0 : (t184.toList == t181.toList) = true := beq_iff_eq.mpr c119
                      have c119b1 : (t184.toList != t181.toList) = false := bne_eq_false_iff_eq.mpr c119
                      clear c119
                      replace H := Option.bind_eq_some_iff.mp H
                      obtain ⟨t186, A1200, H⟩ := H
                      replace H : ((selvagelaw03_num.f t182).bind fun t187 => (if t186 = t187 then ((selvagelaw03_sure.f k2).bind fun t188 => (some t188)) else (some false))) = some r := H
                      have A120 := Aside0.mk A1200
                      clear A1200
                      replace H := Option.bind_eq_some_iff.mp H
                      obtain ⟨t187, A1210, H⟩ := H
                      replace H : (if t186 = t187 then ((selvagelaw03_sure.f k2).bind fun t188 => (some t188)) else (some false)) = some r := H
                      have A121 := Aside0.mk A1210
                      clear A1210
                      by_cases c122 : t186 = t187
                      · rw [if_pos c122] at H
                        have c122b0 : (t186 == t187) = true := beq_iff_eq.mpr c122
                        have c122b1 : (t186 != t187) = false := bne_eq_false_iff_eq.mpr c122
                        clear c122
                        replace H := Option.bind_eq_some_iff.mp H
                        obtain ⟨t188, A1230, H⟩ := H
                        replace H : (some t188) = some r := H
                        have A123 := Aside0.mk A1230
                        clear A1230
                        obtain rfl := Option.some.inj H
                        obtain ⟨Ao124, co124, eo124⟩ := Kd.R_slice HO_15.out
                        subst eo124
                        go_wp2_with (first | ((with_reducible refine gate_callee (f := 30) rfl ?_); refine goesL_ (some 100) rfl rfl Tryd.func30 (by kernel_rfl) rfl #[.string a0, .int .i64 ji115] rfl (by (try simp only [List.map_toArray, List.map_cons, List.map_nil]); first | done | (simp only [hji115]; rfl) | rfl | (simp only [List.length_drop, List.length_take]; rfl)) ?_; (with_reducible refine (path_Strip.calls k2 a0 ji115 t179 none _ A116.out).mono ?_); rintro e w' ⟨rfl, ⟨nd, rfl⟩⟩; refine ⟨_, rfl, ?_⟩; (try simp only [errW_none, errW_some])) | ((with_reducible refine gate_callee (f := 30) rfl ?_); refine goesL_ (some 107) rfl rfl Tryd.func30 (by kernel_rfl) rfl #[.string a0, .int .i64 ((ji115) + 1)] rfl (by (try simp only [List.map_toArray, List.map_cons, List.map_nil]); first | done | (simp only [hji115]; rfl) | rfl | (simp only [List.length_drop, List.length_take]; rfl)) ?_; (with_reducible refine (path_Strip.calls k2 a0 ((ji115) + 1) t181 t182 _ A117.out).mono ?_); rintro e w' ⟨rfl, ⟨nd, rfl⟩⟩; refine ⟨_, rfl, ?_⟩; (try simp only [errW_none, errW_some])) | ((with_reducible refine gate_callee (f := 30) rfl ?_); refine goesL_ (some 114) rfl rfl Tryd.func30 (by kernel_rfl) rfl #[.string t179, .int .i64 1] rfl (by (try simp only [List.map_toArray, List.map_cons, List.map_nil]); first | done | rfl | (simp only [List.length_drop, List.length_take]; rfl)) ?_; (with_reducible refine (path_Strip.calls k2 t179 1 t184 t185 _ A118.out).mono ?_); rintro e w' ⟨rfl, ⟨nd, rfl⟩⟩; refine ⟨_, rfl, ?_⟩; (try simp only [errW_none, errW_some]); have CA120 := fun W (hG_ : Glob W) => selvagelaw03_num.calls t185 t186 W hG_ A120.out; try simp only [errW_none, errW_some] at CA120) | (go_at_call 16; (with_reducible refine (CA120 _ ?side1).mono ?_); (case side1 => exact Glob.below hGL (by repeat (first | (with_reducible first | exact HB.out | apply below_alloc | apply pw_below_drewN | apply below_drew1) | exact HB.out))); rintro e w125 ⟨rfl, hb⟩; have n0_ := Aside0.mk (Kd.R_below (by (with_reducible repeat (first | apply Kd.R_alloc | apply Kd.R_drewN | apply Kd.R_drew)); exact HO_15.out) hb); have n1_ := Aside0.mk (below_step (by repeat (first | (with_reducible first | exact HB.out | apply below_alloc | apply pw_below_drewN | apply below_drew1) | exact HB.out)) hb); clear HO_15; clear HB; have HO_15 := n0_; have HB := n1_; clear n0_ n1_; (try clear hb); (try clear hb2); (try clear hk); (try clear hi); have CA121 := fun W (hG_ : Glob W) => selvagelaw03_num.calls t182 t187 W hG_ A121.out; try simp only [errW_none, errW_some] at CA121) | (go_at_call 16; (with_reducible refine (CA121 _ ?side1).mono ?_); (case side1 => exact Glob.below hGL (by repeat (first | (with_reducible first | exact HB.out | apply below_alloc | apply pw_below_drewN | apply below_drew1) | exact HB.out))); rintro e w126 ⟨rfl, hb⟩; have n0_ := Aside0.mk (Kd.R_below (by (with_reducible repeat (first | apply Kd.R_alloc | apply Kd.R_drewN | apply Kd.R_drew)); exact HO_15.out) hb); have n1_ := Aside0.mk (below_step (by repeat (first | (with_reducible first | exact HB.out | apply below_alloc | apply pw_below_drewN | apply below_drew1) | exact HB.out)) hb); clear HO_15; clear HB; have HO_15 := n0_; have HB := n1_; clear n0_ n1_; (try clear hb); (try clear hb2); (try clear hk); (try clear hi)) | ((with_reducible refine gate_callee (f := 28) rfl ?_); refine goesL_ (some 129) rfl rfl Tryd.func28 (by kernel_rfl) rfl #[] rfl (by (try simp only [List.map_toArray, List.map_cons, List.map_nil]); first | done | rfl | (simp only [List.length_drop, List.length_take]; rfl)) ?_; (with_reducible refine (selvagelaw03_sure.calls k2  t188 _ ?side1 A123.out).mono ?_); (case side1 => exact Glob.below hGL (by repeat (first | (with_reducible first | exact HB.out | apply below_alloc | apply pw_below_drewN | apply below_drew1) | exact HB.out))); rintro e w127 ⟨rfl, hb⟩; refine ⟨_, rfl, ?_⟩; have n0_ := Aside0.mk (Kd.R_below (by (with_reducible repeat (first | apply Kd.R_alloc | apply Kd.R_drewN | apply Kd.R_drew)); exact HO_15.out) hb); have n1_ := Aside0.mk (below_step (by repeat (first | (with_reducible first | exact HB.out | apply below_alloc | apply pw_below_drewN | apply below_drew1) | exact HB.out)) hb); clear HO_15; clear HB; have HO_15 := n0_; have HB := n1_; clear n0_ n1_; (try clear hb); (try clear hb2); (try clear hk); (try clear hi)))
                        go_ret
                        exact ⟨by first | rfl | (simp [errW_none, errW_some] <;> rfl) | (simp only [← hji114, ← hji115]; first | rfl | (simp [errW_none, errW_some] <;> rfl)) | (simp [*, errW_none, errW_some] <;> rfl) | (simp only [i64_w, i32_w, u8_w]; first | rfl | (simp [errW_none, errW_some] <;> rfl)) | (simp only [bne_nil, beq_nil]; first | rfl | (simp <;> rfl)), by repeat (first | (with_reducible first | exact HB.out | apply below_alloc | apply pw_below_drewN | apply below_drew1) | exact HB.out)⟩
                      · rw [if_neg c122] at H
                        have c122b0 : (t186 == t187) = false := beq_eq_false_iff_ne.mpr c122
                        have c122b1 : (t186 != t187) = true := bne_iff_ne.mpr c122
                        obtain rfl := Option.some.inj H
                        obtain ⟨Ao128, co128, eo128⟩ := Kd.R_slice HO_15.out
                        subst eo128
                        go_wp2_with (first | ((with_reducible refine gate_callee (f := 30) rfl ?_); refine goesL_ (some 100) rfl rfl Tryd.func30 (by kernel_rfl) rfl #[.string a0, .int .i64 ji115] rfl (by (try simp only [List.map_toArray, List.map_cons, List.map_nil]); first | done | (simp only [hji115]; rfl) | rfl | (simp only [List.length_drop, List.length_take]; rfl)) ?_; (with_reducible refine (path_Strip.calls k2 a0 ji115 t179 none _ A116.out).mono ?_); rintro e w' ⟨rfl, ⟨nd, rfl⟩⟩; refine ⟨_, rfl, ?_⟩; (try simp only [errW_none, errW_some])) | ((with_reducible refine gate_callee (f := 30) rfl ?_); refine goesL_ (some 107) rfl rfl Tryd.func30 (by kernel_rfl) rfl #[.string a0, .int .i64 ((ji115) + 1)] rfl (by (try simp only [List.map_toArray, List.map_cons, List.map_nil]); first | done | (simp only [hji115]; rfl) | rfl | (simp only [List.length_drop, List.length_take]; rfl)) ?_; (with_reducible refine (path_Strip.calls k2 a0 ((ji115) + 1) t181 t182 _ A117.out).mono ?_); rintro e w' ⟨rfl, ⟨nd, rfl⟩⟩; refine ⟨_, rfl, ?_⟩; (try simp only [errW_none, errW_some])) | ((with_reducible refine gate_callee (f := 30) rfl ?_); refine goesL_ (some 114) rfl rfl Tryd.func30 (by kernel_rfl) rfl #[.string t179, .int .i64 1] rfl (by (try simp only [List.map_toArray, List.map_cons, List.map_nil]); first | done | rfl | (simp only [List.length_drop, List.length_take]; rfl)) ?_; (with_reducible refine (path_Strip.calls k2 t179 1 t184 t185 _ A118.out).mono ?_); rintro e w' ⟨rfl, ⟨nd, rfl⟩⟩; refine ⟨_, rfl, ?_⟩; (try simp only [errW_none, errW_some]); have CA120 := fun W (hG_ : Glob W) => selvagelaw03_num.calls t185 t186 W hG_ A120.out; try simp only [errW_none, errW_some] at CA120) | (go_at_call 16; (with_reducible refine (CA120 _ ?side1).mono ?_); (case side1 => exact Glob.below hGL (by repeat (first | (with_reducible first | exact HB.out | apply below_alloc | apply pw_below_drewN | apply below_drew1) | exact HB.out))); rintro e w129 ⟨rfl, hb⟩; have n0_ := Aside0.mk (Kd.R_below (by (with_reducible repeat (first | apply Kd.R_alloc | apply Kd.R_drewN | apply Kd.R_drew)); exact HO_15.out) hb); have n1_ := Aside0.mk (below_step (by repeat (first | (with_reducible first | exact HB.out | apply below_alloc | apply pw_below_drewN | apply below_drew1) | exact HB.out)) hb); clear HO_15; clear HB; have HO_15 := n0_; have HB := n1_; clear n0_ n1_; (try clear hb); (try clear hb2); (try clear hk); (try clear hi); have CA121 := fun W (hG_ : Glob W) => selvagelaw03_num.calls t182 t187 W hG_ A121.out; try simp only [errW_none, errW_some] at CA121) | (go_at_call 16; (with_reducible refine (CA121 _ ?side1).mono ?_); (case side1 => exact Glob.below hGL (by repeat (first | (with_reducible first | exact HB.out | apply below_alloc | apply pw_below_drewN | apply below_drew1) | exact HB.out))); rintro e w130 ⟨rfl, hb⟩; have n0_ := Aside0.mk (Kd.R_below (by (with_reducible repeat (first | apply Kd.R_alloc | apply Kd.R_drewN | apply Kd.R_drew)); exact HO_15.out) hb); have n1_ := Aside0.mk (below_step (by repeat (first | (with_reducible first | exact HB.out | apply below_alloc | apply pw_below_drewN | apply below_drew1) | exact HB.out)) hb); clear HO_15; clear HB; have HO_15 := n0_; have HB := n1_; clear n0_ n1_; (try clear hb); (try clear hb2); (try clear hk); (try clear hi)))
                        go_ret
                        exact ⟨by first | rfl | (simp [errW_none, errW_some] <;> rfl) | (simp only [← hji114, ← hji115]; first | rfl | (simp [errW_none, errW_some] <;> rfl)) | (simp [*, errW_none, errW_some] <;> rfl) | (simp only [i64_w, i32_w, u8_w]; first | rfl | (simp [errW_none, errW_some] <;> rfl)) | (simp only [bne_nil, beq_nil]; first | rfl | (simp <;> rfl)), by repeat (first | (with_reducible first | exact HB.out | apply below_alloc | apply pw_below_drewN | apply below_drew1) | exact HB.out)⟩
                    · rw [if_neg c119] at H
                      have c119b0 : (t184.toList == t181.toList) = false := beq_eq_false_iff_ne.mpr c119
                      have c119b1 : (t184.toList != t181.toList) = true := bne_iff_ne.mpr c119
                      obtain rfl := Option.some.inj H
                      obtain ⟨Ao131, co131, eo131⟩ := Kd.R_slice HO_15.out
                      subst eo131
                      go_wp2_with (first | ((with_reducible refine gate_callee (f := 30) rfl ?_); refine goesL_ (some 100) rfl rfl Tryd.func30 (by kernel_rfl) rfl #[.string a0, .int .i64 ji115] rfl (by (try simp only [List.map_toArray, List.map_cons, List.map_nil]); first | done | (simp only [hji115]; rfl) | rfl | (simp only [List.length_drop, List.length_take]; rfl)) ?_; (with_reducible refine (path_Strip.calls k2 a0 ji115 t179 none _ A116.out).mono ?_); rintro e w' ⟨rfl, ⟨nd, rfl⟩⟩; refine ⟨_, rfl, ?_⟩; (try simp only [errW_none, errW_some])) | ((with_reducible refine gate_callee (f := 30) rfl ?_); refine goesL_ (some 107) rfl rfl Tryd.func30 (by kernel_rfl) rfl #[.string a0, .int .i64 ((ji115) + 1)] rfl (by (try simp only [List.map_toArray, List.map_cons, List.map_nil]); first | done | (simp only [hji115]; rfl) | rfl | (simp only [List.length_drop, List.length_take]; rfl)) ?_; (with_reducible refine (path_Strip.calls k2 a0 ((ji115) + 1) t181 t182 _ A117.out).mono ?_); rintro e w' ⟨rfl, ⟨nd, rfl⟩⟩; refine ⟨_, rfl, ?_⟩; (try simp only [errW_none, errW_some])) | ((with_reducible refine gate_callee (f := 30) rfl ?_); refine goesL_ (some 114) rfl rfl Tryd.func30 (by kernel_rfl) rfl #[.string t179, .int .i64 1] rfl (by (try simp only [List.map_toArray, List.map_cons, List.map_nil]); first | done | rfl | (simp only [List.length_drop, List.length_take]; rfl)) ?_; (with_reducible refine (path_Strip.calls k2 t179 1 t184 t185 _ A118.out).mono ?_); rintro e w' ⟨rfl, ⟨nd, rfl⟩⟩; refine ⟨_, rfl, ?_⟩; (try simp only [errW_none, errW_some])))
                      go_ret
                      exact ⟨by first | rfl | (simp [errW_none, errW_some] <;> rfl) | (simp only [← hji114, ← hji115]; first | rfl | (simp [errW_none, errW_some] <;> rfl)) | (simp [*, errW_none, errW_some] <;> rfl) | (simp only [i64_w, i32_w, u8_w]; first | rfl | (simp [errW_none, errW_some] <;> rfl)) | (simp only [bne_nil, beq_nil]; first | rfl | (simp <;> rfl)), by repeat (first | (with_reducible first | exact HB.out | apply below_alloc | apply pw_below_drewN | apply below_drew1) | exact HB.out)⟩
                  · have H1 : (if t182.isNone = true then (some false) else ((selvagelaw03_sure.f k2).bind fun t190 => (some t190))) = some r := by rw [if_neg (show ¬ (some q183).isNone = true by simp)] at H; exact H
                    clear H
                    have H := H1
                    clear H1
                    try simp only [errW_none, errW_some]
                    rcases t182 with _ | q189
                    · have H1 : (some false) = some r := by rw [if_pos (show (none : Option Int).isNone = true by rfl)] at H; exact H
                      clear H
                      have H := H1
                      clear H1
                      try simp only [errW_none, errW_some]
                      obtain rfl := Option.some.inj H
                      obtain ⟨Ao132, co132, eo132⟩ := Kd.R_slice HO_15.out
                      subst eo132
                      go_wp2_with (first | ((with_reducible refine gate_callee (f := 30) rfl ?_); refine goesL_ (some 100) rfl rfl Tryd.func30 (by kernel_rfl) rfl #[.string a0, .int .i64 ji115] rfl (by (try simp only [List.map_toArray, List.map_cons, List.map_nil]); first | done | (simp only [hji115]; rfl) | rfl | (simp only [List.length_drop, List.length_take]; rfl)) ?_; (with_reducible refine (path_Strip.calls k2 a0 ji115 t179 (some q183) _ A116.out).mono ?_); rintro e w' ⟨rfl, ⟨nd, rfl⟩⟩; refine ⟨_, rfl, ?_⟩; (try simp only [errW_none, errW_some])) | ((with_reducible refine gate_callee (f := 30) rfl ?_); refine goesL_ (some 107) rfl rfl Tryd.func30 (by kernel_rfl) rfl #[.string a0, .int .i64 ((ji115) + 1)] rfl (by (try simp only [List.map_toArray, List.map_cons, List.map_nil]); first | done | (simp only [hji115]; rfl) | rfl | (simp only [List.length_drop, List.length_take]; rfl)) ?_; (with_reducible refine (path_Strip.calls k2 a0 ((ji115) + 1) t181 none _ A117.out).mono ?_); rintro e w' ⟨rfl, ⟨nd, rfl⟩⟩; refine ⟨_, rfl, ?_⟩; (try simp only [errW_none, errW_some])))
                      go_ret
                      exact ⟨by first | rfl | (simp [errW_none, errW_some] <;> rfl) | (simp only [← hji114, ← hji115]; first | rfl | (simp [errW_none, errW_some] <;> rfl)) | (simp [*, errW_none, errW_some] <;> rfl) | (simp only [i64_w, i32_w, u8_w]; first | rfl | (simp [errW_none, errW_some] <;> rfl)) | (simp only [bne_nil, beq_nil]; first | rfl | (simp <;> rfl)), by repeat (first | (with_reducible first | exact HB.out | apply below_alloc | apply pw_below_drewN | apply below_drew1) | exact HB.out)⟩
                    · have H1 : ((selvagelaw03_sure.f k2).bind fun t190 => (some t190)) = some r := by rw [if_neg (show ¬ (some q189).isNone = true by simp)] at H; exact H
                      clear H
                      have H := H1
                      clear H1
                      try simp only [errW_none, errW_some]
                      replace H := Option.bind_eq_some_iff.mp H
                      obtain ⟨t190, A1330, H⟩ := H
                      replace H : (some t190) = some r := H
                      have A133 := Aside0.mk A1330
                      clear A1330
                      obtain rfl := Option.some.inj H
                      obtain ⟨Ao134, co134, eo134⟩ := Kd.R_slice HO_15.out
                      subst eo134
                      go_wp2_with (first | ((with_reducible refine gate_callee (f := 30) rfl ?_); refine goesL_ (some 100) rfl rfl Tryd.func30 (by kernel_rfl) rfl #[.string a0, .int .i64 ji115] rfl (by (try simp only [List.map_toArray, List.map_cons, List.map_nil]); first | done | (simp only [hji115]; rfl) | rfl | (simp only [List.length_drop, List.length_take]; rfl)) ?_; (with_reducible refine (path_Strip.calls k2 a0 ji115 t179 (some q183) _ A116.out).mono ?_); rintro e w' ⟨rfl, ⟨nd, rfl⟩⟩; refine ⟨_, rfl, ?_⟩; (try simp only [errW_none, errW_some])) | ((with_reducible refine gate_callee (f := 30) rfl ?_); refine goesL_ (some 107) rfl rfl Tryd.func30 (by kernel_rfl) rfl #[.string a0, .int .i64 ((ji115) + 1)] rfl (by (try simp only [List.map_toArray, List.map_cons, List.map_nil]); first | done | (simp only [hji115]; rfl) | rfl | (simp only [List.length_drop, List.length_take]; rfl)) ?_; (with_reducible refine (path_Strip.calls k2 a0 ((ji115) + 1) t181 (some q189) _ A117.out).mono ?_); rintro e w' ⟨rfl, ⟨nd, rfl⟩⟩; refine ⟨_, rfl, ?_⟩; (try simp only [errW_none, errW_some])) | ((with_reducible refine gate_callee (f := 28) rfl ?_); refine goesL_ (some 129) rfl rfl Tryd.func28 (by kernel_rfl) rfl #[] rfl (by (try simp only [List.map_toArray, List.map_cons, List.map_nil]); first | done | rfl | (simp only [List.length_drop, List.length_take]; rfl)) ?_; (with_reducible refine (selvagelaw03_sure.calls k2  t190 _ ?side1 A133.out).mono ?_); (case side1 => exact Glob.below hGL (by repeat (first | (with_reducible first | exact HB.out | apply below_alloc | apply pw_below_drewN | apply below_drew1) | exact HB.out))); rintro e w135 ⟨rfl, hb⟩; refine ⟨_, rfl, ?_⟩; have n0_ := Aside0.mk (Kd.R_below (by (with_reducible repeat (first | apply Kd.R_alloc | apply Kd.R_drewN | apply Kd.R_drew)); exact HO_15.out) hb); have n1_ := Aside0.mk (below_step (by repeat (first | (with_reducible first | exact HB.out | apply below_alloc | apply pw_below_drewN | apply below_drew1) | exact HB.out)) hb); clear HO_15; clear HB; have HO_15 := n0_; have HB := n1_; clear n0_ n1_; (try clear hb); (try clear hb2); (try clear hk); (try clear hi)))
                      go_ret
                      exact ⟨by first | rfl | (simp [errW_none, errW_some] <;> rfl) | (simp only [← hji114, ← hji115]; first | rfl | (simp [errW_none, errW_some] <;> rfl)) | (simp [*, errW_none, errW_some] <;> rfl) | (simp only [i64_w, i32_w, u8_w]; first | rfl | (simp [errW_none, errW_some] <;> rfl)) | (simp only [bne_nil, beq_nil]; first | rfl | (simp <;> rfl)), by repeat (first | (with_reducible first | exact HB.out | apply below_alloc | apply pw_below_drewN | apply below_drew1) | exact HB.out)⟩
    · have H1 : ((path_Strip.f k a0 (mx 0 (mn a2 20))).bind fun bt215 => ((path_Strip.f k a0 ((mx 0 (mn a2 20)) + 1)).bind fun bt217 => (if bt215.2.isNone = true then ((path_Strip.f k bt215.1 1).bind fun bt220 => (if bt220.1.toList = bt217.1.toList then ((selvagelaw03_num.f bt220.2).bind fun t222 => ((selvagelaw03_num.f bt217.2).bind fun t223 => (if t222 = t223 then ((selvagelaw03_sure.f k).bind fun t224 => (some t224)) else (some false)))) else (some false))) else (if bt217.2.isNone = true then (some false) else ((selvagelaw03_sure.f k).bind fun t226 => (some t226)))))) = some r := by rw [if_neg (show ¬ (some q205).isNone = true by simp)] at H; exact H
      clear H
      have H := H1
      clear H1
      try simp only [errW_none, errW_some]
      obtain ⟨ji136, hji136⟩ : ∃ j_ : Int, (mn a2 20) = j_ := ⟨_, rfl⟩
      replace H : ((path_Strip.f k a0 (mx 0 (ji136))).bind fun bt215 => ((path_Strip.f k a0 ((mx 0 (ji136)) + 1)).bind fun bt217 => (if bt215.2.isNone = true then ((path_Strip.f k bt215.1 1).bind fun bt220 => (if bt220.1.toList = bt217.1.toList then ((selvagelaw03_num.f bt220.2).bind fun t222 => ((selvagelaw03_num.f bt217.2).bind fun t223 => (if t222 = t223 then ((selvagelaw03_sure.f k).bind fun t224 => (some t224)) else (some false)))) else (some false))) else (if bt217.2.isNone = true then (some false) else ((selvagelaw03_sure.f k).bind fun t226 => (some t226)))))) = some r := by first | (rw [hji136] at H; exact H) | (simp only [hji136] at H ⊢; exact H)
      (try rw [hji136] at A4)
      (try rw [hji136] at A94)
      (try (have hji136h : ji136 ≤ 20 := by (rw [← hji136]; unfold mn; (repeat' split) <;> omega)))
      (try (have hji136g : ji136 ≤ 64 := by omega))
      have hji136_ : (if 20 < a2 then 20 else a2) = ji136 := hji136
      obtain ⟨ji137, hji137⟩ : ∃ j_ : Int, (mx 0 (ji136)) = j_ := ⟨_, rfl⟩
      replace H : ((path_Strip.f k a0 (ji137)).bind fun bt215 => ((path_Strip.f k a0 ((ji137) + 1)).bind fun bt217 => (if bt215.2.isNone = true then ((path_Strip.f k bt215.1 1).bind fun bt220 => (if bt220.1.toList = bt217.1.toList then ((selvagelaw03_num.f bt220.2).bind fun t222 => ((selvagelaw03_num.f bt217.2).bind fun t223 => (if t222 = t223 then ((selvagelaw03_sure.f k).bind fun t224 => (some t224)) else (some false)))) else (some false))) else (if bt217.2.isNone = true then (some false) else ((selvagelaw03_sure.f k).bind fun t226 => (some t226)))))) = some r := by first | (rw [hji137] at H; exact H) | (simp only [hji137] at H ⊢; exact H)
      (try rw [hji137] at A4)
      (try rw [hji137] at A94)
      have hji137_ : (if 0 < (ji136) then (ji136) else 0) = ji137 := hji137
      replace H := Option.bind_eq_some_iff.mp H
      obtain ⟨⟨t215, t216⟩, A1380, H⟩ := H
      replace H : ((path_Strip.f k a0 ((ji137) + 1)).bind fun bt217 => (if t216.isNone = true then ((path_Strip.f k t215 1).bind fun bt220 => (if bt220.1.toList = bt217.1.toList then ((selvagelaw03_num.f bt220.2).bind fun t222 => ((selvagelaw03_num.f bt217.2).bind fun t223 => (if t222 = t223 then ((selvagelaw03_sure.f k).bind fun t224 => (some t224)) else (some false)))) else (some false))) else (if bt217.2.isNone = true then (some false) else ((selvagelaw03_sure.f k).bind fun t226 => (some t226))))) = some r := H
      have A138 := Aside0.mk A1380
      clear A1380
      replace H := Option.bind_eq_some_iff.mp H
      obtain ⟨⟨t217, t218⟩, A1390, H⟩ := H
      replace H : (if t216.isNone = true then ((path_Strip.f k t215 1).bind fun bt220 => (if bt220.1.toList = t217.toList then ((selvagelaw03_num.f bt220.2).bind fun t222 => ((selvagelaw03_num.f t218).bind fun t223 => (if t222 = t223 then ((selvagelaw03_sure.f k).bind fun t224 => (some t224)) else (some false)))) else (some false))) else (if t218.isNone = true then (some false) else ((selvagelaw03_sure.f k).bind fun t226 => (some t226)))) = some r := H
      have A139 := Aside0.mk A1390
      clear A1390
      rcases t216 with _ | q219
      · have H1 : ((path_Strip.f k t215 1).bind fun bt220 => (if bt220.1.toList = t217.toList then ((selvagelaw03_num.f bt220.2).bind fun t222 => ((selvagelaw03_num.f t218).bind fun t223 => (if t222 = t223 then ((selvagelaw03_sure.f k).bind fun t224 => (some t224)) else (some false)))) else (some false))) = some r := by rw [if_pos (show (none : Option Int).isNone = true by rfl)] at H; exact H
        clear H
        have H := H1
        clear H1
        try simp only [errW_none, errW_some]
        replace H := Option.bind_eq_some_iff.mp H
        obtain ⟨⟨t220, t221⟩, A1400, H⟩ := H
        replace H : (if t220.toList = t217.toList then ((selvagelaw03_num.f t221).bind fun t222 => ((selvagelaw03_num.f t218).bind fun t223 => (if t222 = t223 then ((selvagelaw03_sure.f k).bind fun t224 => (some t224)) else (some false)))) else (some false)) = some r := H
        have A140 := Aside0.mk A1400
        clear A1400
        by_cases c141 : t220.toList = t217.toList
        · rw [if_pos c141] at H
          have c141b0 : (t220.toList == t217.toList) = true := beq_iff_eq.mpr c141
          have c141b1 : (t220.toList != t217.toList) = false := bne_eq_false_iff_eq.mpr c141
          clear c141
          replace H := Option.bind_eq_some_iff.mp H
          obtain ⟨t222, A1420, H⟩ := H
          replace H : ((selvagelaw03_num.f t218).bind fun t223 => (if t222 = t223 then ((selvagelaw03_sure.f k).bind fun t224 => (some t224)) else (some false))) = some r := H
          have A142 := Aside0.mk A1420
          clear A1420
          replace H := Option.bind_eq_some_iff.mp H
          obtain ⟨t223, A1430, H⟩ := H
          replace H : (if t222 = t223 then ((selvagelaw03_sure.f k).bind fun t224 => (some t224)) else (some false)) = some r := H
          have A143 := Aside0.mk A1430
          clear A1430
          by_cases c144 : t222 = t223
          · rw [if_pos c144] at H
            have c144b0 : (t222 == t223) = true := beq_iff_eq.mpr c144
            have c144b1 : (t222 != t223) = false := bne_eq_false_iff_eq.mpr c144
            clear c144
            replace H := Option.bind_eq_some_iff.mp H
            obtain ⟨t224, A1450, H⟩ := H
            replace H : (some t224) = some r := H
            have A145 := Aside0.mk A1450
            clear A1450
            obtain rfl := Option.some.inj H
            go_enter Tryd.func9, Tryd.ntmps9
            go_wp2_with (first | ((with_reducible refine gate_callee (f := 18) rfl ?_); refine goesL_ (some 26) rfl rfl Tryd.func18 (by kernel_rfl) rfl #[.slice A1 l1.length c1] rfl (by (try simp only [List.map_toArray, List.map_cons, List.map_nil]); first | done | rfl | (simp only [List.length_drop, List.length_take]; rfl)) ?_; (with_reducible refine (path_Join.calls k _ _ l1 t155 (some q157) _ ?side1 ?side2 A4.out).mono ?_); (case side1 => repeat (first | exact HR1.out | (with_reducible refine Kd.C_alloc ?_ _) | (with_reducible refine Kd.C_drewN ?_ _) | (with_reducible refine Kd.C_drew ?_))); (case side2 => exact HC1.out); rintro e w146 ⟨rfl, hb⟩; refine ⟨_, rfl, ?_⟩; have n0_ := Aside0.mk (below_step (by repeat (first | (with_reducible first | exact HB.out | apply below_alloc | apply pw_below_drewN | apply below_drew1) | exact HB.out)) hb); clear HB; have HB := n0_; clear n0_; (try clear hb); (try clear hb2); (try clear hk); (try clear hi); (try simp only [errW_none, errW_some])) | ((with_reducible refine gate_callee (f := 32) rfl ?_); refine goesL_ (some 46) rfl rfl Tryd.func32 (by kernel_rfl) rfl #[.string a0] rfl (by (try simp only [List.map_toArray, List.map_cons, List.map_nil]); first | done | rfl | (simp only [List.length_drop, List.length_take]; rfl)) ?_; (with_reducible refine (path_Safe.calls k a0 t203 (some q205) _ ?side1 A94.out).mono ?_); (case side1 => exact Glob.below hGL (by repeat (first | (with_reducible first | exact HB.out | apply below_alloc | apply pw_below_drewN | apply below_drew1) | exact HB.out))); rintro e w147 ⟨rfl, hb⟩; refine ⟨_, rfl, ?_⟩; have n0_ := Aside0.mk (below_step (by repeat (first | (with_reducible first | exact HB.out | apply below_alloc | apply pw_below_drewN | apply below_drew1) | exact HB.out)) hb); clear HB; have HB := n0_; clear n0_; (try clear hb); (try clear hb2); (try clear hk); (try clear hi); (try simp only [errW_none, errW_some])) | ((with_reducible refine gate_callee (f := 30) rfl ?_); refine goesL_ (some 100) rfl rfl Tryd.func30 (by kernel_rfl) rfl #[.string a0, .int .i64 ji137] rfl (by (try simp only [List.map_toArray, List.map_cons, List.map_nil]); first | done | (simp only [hji137]; rfl) | rfl | (simp only [List.length_drop, List.length_take]; rfl)) ?_; (with_reducible refine (path_Strip.calls k a0 ji137 t215 none _ A138.out).mono ?_); rintro e w' ⟨rfl, ⟨nd, rfl⟩⟩; refine ⟨_, rfl, ?_⟩; (try simp only [errW_none, errW_some])) | ((with_reducible refine gate_callee (f := 30) rfl ?_); refine goesL_ (some 107) rfl rfl Tryd.func30 (by kernel_rfl) rfl #[.string a0, .int .i64 ((ji137) + 1)] rfl (by (try simp only [List.map_toArray, List.map_cons, List.map_nil]); first | done | (simp only [hji137]; rfl) | rfl | (simp only [List.length_drop, List.length_take]; rfl)) ?_; (with_reducible refine (path_Strip.calls k a0 ((ji137) + 1) t217 t218 _ A139.out).mono ?_); rintro e w' ⟨rfl, ⟨nd, rfl⟩⟩; refine ⟨_, rfl, ?_⟩; (try simp only [errW_none, errW_some])) | ((with_reducible refine gate_callee (f := 30) rfl ?_); refine goesL_ (some 114) rfl rfl Tryd.func30 (by kernel_rfl) rfl #[.string t215, .int .i64 1] rfl (by (try simp only [List.map_toArray, List.map_cons, List.map_nil]); first | done | rfl | (simp only [List.length_drop, List.length_take]; rfl)) ?_; (with_reducible refine (path_Strip.calls k t215 1 t220 t221 _ A140.out).mono ?_); rintro e w' ⟨rfl, ⟨nd, rfl⟩⟩; refine ⟨_, rfl, ?_⟩; (try simp only [errW_none, errW_some]); have CA142 := fun W (hG_ : Glob W) => selvagelaw03_num.calls t221 t222 W hG_ A142.out; try simp only [errW_none, errW_some] at CA142) | (go_at_call 16; (with_reducible refine (CA142 _ ?side1).mono ?_); (case side1 => exact Glob.below hGL (by repeat (first | (with_reducible first | exact HB.out | apply below_alloc | apply pw_below_drewN | apply below_drew1) | exact HB.out))); rintro e w148 ⟨rfl, hb⟩; have n0_ := Aside0.mk (below_step (by repeat (first | (with_reducible first | exact HB.out | apply below_alloc | apply pw_below_drewN | apply below_drew1) | exact HB.out)) hb); clear HB; have HB := n0_; clear n0_; (try clear hb); (try clear hb2); (try clear hk); (try clear hi); have CA143 := fun W (hG_ : Glob W) => selvagelaw03_num.calls t218 t223 W hG_ A143.out; try simp only [errW_none, errW_some] at CA143) | (go_at_call 16; (with_reducible refine (CA143 _ ?side1).mono ?_); (case side1 => exact Glob.below hGL (by repeat (first | (with_reducible first | exact HB.out | apply below_alloc | apply pw_below_drewN | apply below_drew1) | exact HB.out))); rintro e w149 ⟨rfl, hb⟩; have n0_ := Aside0.mk (below_step (by repeat (first | (with_reducible first | exact HB.out | apply below_alloc | apply pw_below_drewN | apply below_drew1) | exact HB.out)) hb); clear HB; have HB := n0_; clear n0_; (try clear hb); (try clear hb2); (try clear hk); (try clear hi)) | ((with_reducible refine gate_callee (f := 28) rfl ?_); refine goesL_ (some 129) rfl rfl Tryd.func28 (by kernel_rfl) rfl #[] rfl (by (try simp only [List.map_toArray, List.map_cons, List.map_nil]); first | done | rfl | (simp only [List.length_drop, List.length_take]; rfl)) ?_; (with_reducible refine (selvagelaw03_sure.calls k  t224 _ ?side1 A145.out).mono ?_); (case side1 => exact Glob.below hGL (by repeat (first | (with_reducible first | exact HB.out | apply below_alloc | apply pw_below_drewN | apply below_drew1) | exact HB.out))); rintro e w150 ⟨rfl, hb⟩; refine ⟨_, rfl, ?_⟩; have n0_ := Aside0.mk (below_step (by repeat (first | (with_reducible first | exact HB.out | apply below_alloc | apply pw_below_drewN | apply below_drew1) | exact HB.out)) hb); clear HB; have HB := n0_; clear n0_; (try clear hb); (try clear hb2); (try clear hk); (try clear hi)))
            go_ret
            exact ⟨by first | rfl | (simp [errW_none, errW_some] <;> rfl) | (simp only [← hji136, ← hji137]; first | rfl | (simp [errW_none, errW_some] <;> rfl)) | (simp [*, errW_none, errW_some] <;> rfl) | (simp only [i64_w, i32_w, u8_w]; first | rfl | (simp [errW_none, errW_some] <;> rfl)) | (simp only [bne_nil, beq_nil]; first | rfl | (simp <;> rfl)), by repeat (first | (with_reducible first | exact HB.out | apply below_alloc | apply pw_below_drewN | apply below_drew1) | exact HB.out)⟩
          · rw [if_neg c144] at H
            have c144b0 : (t222 == t223) = false := beq_eq_false_iff_ne.mpr c144
            have c144b1 : (t222 != t223) = true := bne_iff_ne.mpr c144
            obtain rfl := Option.some.inj H
            go_enter Tryd.func9, Tryd.ntmps9
            go_wp2_with (first | ((with_reducible refine gate_callee (f := 18) rfl ?_); refine goesL_ (some 26) rfl rfl Tryd.func18 (by kernel_rfl) rfl #[.slice A1 l1.length c1] rfl (by (try simp only [List.map_toArray, List.map_cons, List.map_nil]); first | done | rfl | (simp only [List.length_drop, List.length_take]; rfl)) ?_; (with_reducible refine (path_Join.calls k _ _ l1 t155 (some q157) _ ?side1 ?side2 A4.out).mono ?_); (case side1 => repeat (first | exact HR1.out | (with_reducible refine Kd.C_alloc ?_ _) | (with_reducible refine Kd.C_drewN ?_ _) | (with_reducible refine Kd.C_drew ?_))); (case side2 => exact HC1.out); rintro e w151 ⟨rfl, hb⟩; refine ⟨_, rfl, ?_⟩; have n0_ := Aside0.mk (below_step (by repeat (first | (with_reducible first | exact HB.out | apply below_alloc | apply pw_below_drewN | apply below_drew1) | exact HB.out)) hb); clear HB; have HB := n0_; clear n0_; (try clear hb); (try clear hb2); (try clear hk); (try clear hi); (try simp only [errW_none, errW_some])) | ((with_reducible refine gate_callee (f := 32) rfl ?_); refine goesL_ (some 46) rfl rfl Tryd.func32 (by kernel_rfl) rfl #[.string a0] rfl (by (try simp only [List.map_toArray, List.map_cons, List.map_nil]); first | done | rfl | (simp only [List.length_drop, List.length_take]; rfl)) ?_; (with_reducible refine (path_Safe.calls k a0 t203 (some q205) _ ?side1 A94.out).mono ?_); (case side1 => exact Glob.below hGL (by repeat (first | (with_reducible first | exact HB.out | apply below_alloc | apply pw_below_drewN | apply below_drew1) | exact HB.out))); rintro e w152 ⟨rfl, hb⟩; refine ⟨_, rfl, ?_⟩; have n0_ := Aside0.mk (below_step (by repeat (first | (with_reducible first | exact HB.out | apply below_alloc | apply pw_below_drewN | apply below_drew1) | exact HB.out)) hb); clear HB; have HB := n0_; clear n0_; (try clear hb); (try clear hb2); (try clear hk); (try clear hi); (try simp only [errW_none, errW_some])) | ((with_reducible refine gate_callee (f := 30) rfl ?_); refine goesL_ (some 100) rfl rfl Tryd.func30 (by kernel_rfl) rfl #[.string a0, .int .i64 ji137] rfl (by (try simp only [List.map_toArray, List.map_cons, List.map_nil]); first | done | (simp only [hji137]; rfl) | rfl | (simp only [List.length_drop, List.length_take]; rfl)) ?_; (with_reducible refine (path_Strip.calls k a0 ji137 t215 none _ A138.out).mono ?_); rintro e w' ⟨rfl, ⟨nd, rfl⟩⟩; refine ⟨_, rfl, ?_⟩; (try simp only [errW_none, errW_some])) | ((with_reducible refine gate_callee (f := 30) rfl ?_); refine goesL_ (some 107) rfl rfl Tryd.func30 (by kernel_rfl) rfl #[.string a0, .int .i64 ((ji137) + 1)] rfl (by (try simp only [List.map_toArray, List.map_cons, List.map_nil]); first | done | (simp only [hji137]; rfl) | rfl | (simp only [List.length_drop, List.length_take]; rfl)) ?_; (with_reducible refine (path_Strip.calls k a0 ((ji137) + 1) t217 t218 _ A139.out).mono ?_); rintro e w' ⟨rfl, ⟨nd, rfl⟩⟩; refine ⟨_, rfl, ?_⟩; (try simp only [errW_none, errW_some])) | ((with_reducible refine gate_callee (f := 30) rfl ?_); refine goesL_ (some 114) rfl rfl Tryd.func30 (by kernel_rfl) rfl #[.string t215, .int .i64 1] rfl (by (try simp only [List.map_toArray, List.map_cons, List.map_nil]); first | done | rfl | (simp only [List.length_drop, List.length_take]; rfl)) ?_; (with_reducible refine (path_Strip.calls k t215 1 t220 t221 _ A140.out).mono ?_); rintro e w' ⟨rfl, ⟨nd, rfl⟩⟩; refine ⟨_, rfl, ?_⟩; (try simp only [errW_none, errW_some]); have CA142 := fun W (hG_ : Glob W) => selvagelaw03_num.calls t221 t222 W hG_ A142.out; try simp only [errW_none, errW_some] at CA142) | (go_at_call 16; (with_reducible refine (CA142 _ ?side1).mono ?_); (case side1 => exact Glob.below hGL (by repeat (first | (with_reducible first | exact HB.out | apply below_alloc | apply pw_below_drewN | apply below_drew1) | exact HB.out))); rintro e w153 ⟨rfl, hb⟩; have n0_ := Aside0.mk (below_step (by repeat (first | (with_reducible first | exact HB.out | apply below_alloc | apply pw_below_drewN | apply below_drew1) | exact HB.out)) hb); clear HB; have HB := n0_; clear n0_; (try clear hb); (try clear hb2); (try clear hk); (try clear hi); have CA143 := fun W (hG_ : Glob W) => selvagelaw03_num.calls t218 t223 W hG_ A143.out; try simp only [errW_none, errW_some] at CA143) | (go_at_call 16; (with_reducible refine (CA143 _ ?side1).mono ?_); (case side1 => exact Glob.below hGL (by repeat (first | (with_reducible first | exact HB.out | apply below_alloc | apply pw_below_drewN | apply below_drew1) | exact HB.out))); rintro e w154 ⟨rfl, hb⟩; have n0_ := Aside0.mk (below_step (by repeat (first | (with_reducible first | exact HB.out | apply below_alloc | apply pw_below_drewN | apply below_drew1) | exact HB.out)) hb); clear HB; have HB := n0_; clear n0_; (try clear hb); (try clear hb2); (try clear hk); (try clear hi)))
            go_ret
            exact ⟨by first | rfl | (simp [errW_none, errW_some] <;> rfl) | (simp only [← hji136, ← hji137]; first | rfl | (simp [errW_none, errW_some] <;> rfl)) | (simp [*, errW_none, errW_some] <;> rfl) | (simp only [i64_w, i32_w, u8_w]; first | rfl | (simp [errW_none, errW_some] <;> rfl)) | (simp only [bne_nil, beq_nil]; first | rfl | (simp <;> rfl)), by repeat (first | (with_reducible first | exact HB.out | apply below_alloc | apply pw_below_drewN | apply below_drew1) | exact HB.out)⟩
        · rw [if_neg c141] at H
          have c141b0 : (t220.toList == t217.toList) = false := beq_eq_false_iff_ne.mpr c141
          have c141b1 : (t220.toList != t217.toList) = true := bne_iff_ne.mpr c141
          obtain rfl := Option.some.inj H
          go_enter Tryd.func9, Tryd.ntmps9
          go_wp2_with (first | ((with_reducible refine gate_callee (f := 18) rfl ?_); refine goesL_ (some 26) rfl rfl Tryd.func18 (by kernel_rfl) rfl #[.slice A1 l1.length c1] rfl (by (try simp only [List.map_toArray, List.map_cons, List.map_nil]); first | done | rfl | (simp only [List.length_drop, List.length_take]; rfl)) ?_; (with_reducible refine (path_Join.calls k _ _ l1 t155 (some q157) _ ?side1 ?side2 A4.out).mono ?_); (case side1 => repeat (first | exact HR1.out | (with_reducible refine Kd.C_alloc ?_ _) | (with_reducible refine Kd.C_drewN ?_ _) | (with_reducible refine Kd.C_drew ?_))); (case side2 => exact HC1.out); rintro e w155 ⟨rfl, hb⟩; refine ⟨_, rfl, ?_⟩; have n0_ := Aside0.mk (below_step (by repeat (first | (with_reducible first | exact HB.out | apply below_alloc | apply pw_below_drewN | apply below_drew1) | exact HB.out)) hb); clear HB; have HB := n0_; clear n0_; (try clear hb); (try clear hb2); (try clear hk); (try clear hi); (try simp only [errW_none, errW_some])) | ((with_reducible refine gate_callee (f := 32) rfl ?_); refine goesL_ (some 46) rfl rfl Tryd.func32 (by kernel_rfl) rfl #[.string a0] rfl (by (try simp only [List.map_toArray, List.map_cons, List.map_nil]); first | done | rfl | (simp only [List.length_drop, List.length_take]; rfl)) ?_; (with_reducible refine (path_Safe.calls k a0 t203 (some q205) _ ?side1 A94.out).mono ?_); (case side1 => exact Glob.below hGL (by repeat (first | (with_reducible first | exact HB.out | apply below_alloc | apply pw_below_drewN | apply below_drew1) | exact HB.out))); rintro e w156 ⟨rfl, hb⟩; refine ⟨_, rfl, ?_⟩; have n0_ := Aside0.mk (below_step (by repeat (first | (with_reducible first | exact HB.out | apply below_alloc | apply pw_below_drewN | apply below_drew1) | exact HB.out)) hb); clear HB; have HB := n0_; clear n0_; (try clear hb); (try clear hb2); (try clear hk); (try clear hi); (try simp only [errW_none, errW_some])) | ((with_reducible refine gate_callee (f := 30) rfl ?_); refine goesL_ (some 100) rfl rfl Tryd.func30 (by kernel_rfl) rfl #[.string a0, .int .i64 ji137] rfl (by (try simp only [List.map_toArray, List.map_cons, List.map_nil]); first | done | (simp only [hji137]; rfl) | rfl | (simp only [List.length_drop, List.length_take]; rfl)) ?_; (with_reducible refine (path_Strip.calls k a0 ji137 t215 none _ A138.out).mono ?_); rintro e w' ⟨rfl, ⟨nd, rfl⟩⟩; refine ⟨_, rfl, ?_⟩; (try simp only [errW_none, errW_some])) | ((with_reducible refine gate_callee (f := 30) rfl ?_); refine goesL_ (some 107) rfl rfl Tryd.func30 (by kernel_rfl) rfl #[.string a0, .int .i64 ((ji137) + 1)] rfl (by (try simp only [List.map_toArray, List.map_cons, List.map_nil]); first | done | (simp only [hji137]; rfl) | rfl | (simp only [List.length_drop, List.length_take]; rfl)) ?_; (with_reducible refine (path_Strip.calls k a0 ((ji137) + 1) t217 t218 _ A139.out).mono ?_); rintro e w' ⟨rfl, ⟨nd, rfl⟩⟩; refine ⟨_, rfl, ?_⟩; (try simp only [errW_none, errW_some])) | ((with_reducible refine gate_callee (f := 30) rfl ?_); refine goesL_ (some 114) rfl rfl Tryd.func30 (by kernel_rfl) rfl #[.string t215, .int .i64 1] rfl (by (try simp only [List.map_toArray, List.map_cons, List.map_nil]); first | done | rfl | (simp only [List.length_drop, List.length_take]; rfl)) ?_; (with_reducible refine (path_Strip.calls k t215 1 t220 t221 _ A140.out).mono ?_); rintro e w' ⟨rfl, ⟨nd, rfl⟩⟩; refine ⟨_, rfl, ?_⟩; (try simp only [errW_none, errW_some])))
          go_ret
          exact ⟨by first | rfl | (simp [errW_none, errW_some] <;> rfl) | (simp only [← hji136, ← hji137]; first | rfl | (simp [errW_none, errW_some] <;> rfl)) | (simp [*, errW_none, errW_some] <;> rfl) | (simp only [i64_w, i32_w, u8_w]; first | rfl | (simp [errW_none, errW_some] <;> rfl)) | (simp only [bne_nil, beq_nil]; first | rfl | (simp <;> rfl)), by repeat (first | (with_reducible first | exact HB.out | apply below_alloc | apply pw_below_drewN | apply below_drew1) | exact HB.out)⟩
      · have H1 : (if t218.isNone = true then (some false) else ((selvagelaw03_sure.f k).bind fun t226 => (some t226))) = some r := by rw [if_neg (show ¬ (some q219).isNone = true by simp)] at H; exact H
        clear H
        have H := H1
        clear H1
        try simp only [errW_none, errW_some]
        rcases t218 with _ | q225
        · have H1 : (some false) = some r := by rw [if_pos (show (none : Option Int).isNone = true by rfl)] at H; exact H
          clear H
          have H := H1
          clear H1
          try simp only [errW_none, errW_some]
          obtain rfl := Option.some.inj H
          go_enter Tryd.func9, Tryd.ntmps9
          go_wp2_with (first | ((with_reducible refine gate_callee (f := 18) rfl ?_); refine goesL_ (some 26) rfl rfl Tryd.func18 (by kernel_rfl) rfl #[.slice A1 l1.length c1] rfl (by (try simp only [List.map_toArray, List.map_cons, List.map_nil]); first | done | rfl | (simp only [List.length_drop, List.length_take]; rfl)) ?_; (with_reducible refine (path_Join.calls k _ _ l1 t155 (some q157) _ ?side1 ?side2 A4.out).mono ?_); (case side1 => repeat (first | exact HR1.out | (with_reducible refine Kd.C_alloc ?_ _) | (with_reducible refine Kd.C_drewN ?_ _) | (with_reducible refine Kd.C_drew ?_))); (case side2 => exact HC1.out); rintro e w157 ⟨rfl, hb⟩; refine ⟨_, rfl, ?_⟩; have n0_ := Aside0.mk (below_step (by repeat (first | (with_reducible first | exact HB.out | apply below_alloc | apply pw_below_drewN | apply below_drew1) | exact HB.out)) hb); clear HB; have HB := n0_; clear n0_; (try clear hb); (try clear hb2); (try clear hk); (try clear hi); (try simp only [errW_none, errW_some])) | ((with_reducible refine gate_callee (f := 32) rfl ?_); refine goesL_ (some 46) rfl rfl Tryd.func32 (by kernel_rfl) rfl #[.string a0] rfl (by (try simp only [List.map_toArray, List.map_cons, List.map_nil]); first | done | rfl | (simp only [List.length_drop, List.length_take]; rfl)) ?_; (with_reducible refine (path_Safe.calls k a0 t203 (some q205) _ ?side1 A94.out).mono ?_); (case side1 => exact Glob.below hGL (by repeat (first | (with_reducible first | exact HB.out | apply below_alloc | apply pw_below_drewN | apply below_drew1) | exact HB.out))); rintro e w158 ⟨rfl, hb⟩; refine ⟨_, rfl, ?_⟩; have n0_ := Aside0.mk (below_step (by repeat (first | (with_reducible first | exact HB.out | apply below_alloc | apply pw_below_drewN | apply below_drew1) | exact HB.out)) hb); clear HB; have HB := n0_; clear n0_; (try clear hb); (try clear hb2); (try clear hk); (try clear hi); (try simp only [errW_none, errW_some])) | ((with_reducible refine gate_callee (f := 30) rfl ?_); refine goesL_ (some 100) rfl rfl Tryd.func30 (by kernel_rfl) rfl #[.string a0, .int .i64 ji137] rfl (by (try simp only [List.map_toArray, List.map_cons, List.map_nil]); first | done | (simp only [hji137]; rfl) | rfl | (simp only [List.length_drop, List.length_take]; rfl)) ?_; (with_reducible refine (path_Strip.calls k a0 ji137 t215 (some q219) _ A138.out).mono ?_); rintro e w' ⟨rfl, ⟨nd, rfl⟩⟩; refine ⟨_, rfl, ?_⟩; (try simp only [errW_none, errW_some])) | ((with_reducible refine gate_callee (f := 30) rfl ?_); refine goesL_ (some 107) rfl rfl Tryd.func30 (by kernel_rfl) rfl #[.string a0, .int .i64 ((ji137) + 1)] rfl (by (try simp only [List.map_toArray, List.map_cons, List.map_nil]); first | done | (simp only [hji137]; rfl) | rfl | (simp only [List.length_drop, List.length_take]; rfl)) ?_; (with_reducible refine (path_Strip.calls k a0 ((ji137) + 1) t217 none _ A139.out).mono ?_); rintro e w' ⟨rfl, ⟨nd, rfl⟩⟩; refine ⟨_, rfl, ?_⟩; (try simp only [errW_none, errW_some])))
          go_ret
          exact ⟨by first | rfl | (simp [errW_none, errW_some] <;> rfl) | (simp only [← hji136, ← hji137]; first | rfl | (simp [errW_none, errW_some] <;> rfl)) | (simp [*, errW_none, errW_some] <;> rfl) | (simp only [i64_w, i32_w, u8_w]; first | rfl | (simp [errW_none, errW_some] <;> rfl)) | (simp only [bne_nil, beq_nil]; first | rfl | (simp <;> rfl)), by repeat (first | (with_reducible first | exact HB.out | apply below_alloc | apply pw_below_drewN | apply below_drew1) | exact HB.out)⟩
        · have H1 : ((selvagelaw03_sure.f k).bind fun t226 => (some t226)) = some r := by rw [if_neg (show ¬ (some q225).isNone = true by simp)] at H; exact H
          clear H
          have H := H1
          clear H1
          try simp only [errW_none, errW_some]
          replace H := Option.bind_eq_some_iff.mp H
          obtain ⟨t226, A1590, H⟩ := H
          replace H : (some t226) = some r := H
          have A159 := Aside0.mk A1590
          clear A1590
          obtain rfl := Option.some.inj H
          go_enter Tryd.func9, Tryd.ntmps9
          go_wp2_with (first | ((with_reducible refine gate_callee (f := 18) rfl ?_); refine goesL_ (some 26) rfl rfl Tryd.func18 (by kernel_rfl) rfl #[.slice A1 l1.length c1] rfl (by (try simp only [List.map_toArray, List.map_cons, List.map_nil]); first | done | rfl | (simp only [List.length_drop, List.length_take]; rfl)) ?_; (with_reducible refine (path_Join.calls k _ _ l1 t155 (some q157) _ ?side1 ?side2 A4.out).mono ?_); (case side1 => repeat (first | exact HR1.out | (with_reducible refine Kd.C_alloc ?_ _) | (with_reducible refine Kd.C_drewN ?_ _) | (with_reducible refine Kd.C_drew ?_))); (case side2 => exact HC1.out); rintro e w160 ⟨rfl, hb⟩; refine ⟨_, rfl, ?_⟩; have n0_ := Aside0.mk (below_step (by repeat (first | (with_reducible first | exact HB.out | apply below_alloc | apply pw_below_drewN | apply below_drew1) | exact HB.out)) hb); clear HB; have HB := n0_; clear n0_; (try clear hb); (try clear hb2); (try clear hk); (try clear hi); (try simp only [errW_none, errW_some])) | ((with_reducible refine gate_callee (f := 32) rfl ?_); refine goesL_ (some 46) rfl rfl Tryd.func32 (by kernel_rfl) rfl #[.string a0] rfl (by (try simp only [List.map_toArray, List.map_cons, List.map_nil]); first | done | rfl | (simp only [List.length_drop, List.length_take]; rfl)) ?_; (with_reducible refine (path_Safe.calls k a0 t203 (some q205) _ ?side1 A94.out).mono ?_); (case side1 => exact Glob.below hGL (by repeat (first | (with_reducible first | exact HB.out | apply below_alloc | apply pw_below_drewN | apply below_drew1) | exact HB.out))); rintro e w161 ⟨rfl, hb⟩; refine ⟨_, rfl, ?_⟩; have n0_ := Aside0.mk (below_step (by repeat (first | (with_reducible first | exact HB.out | apply below_alloc | apply pw_below_drewN | apply below_drew1) | exact HB.out)) hb); clear HB; have HB := n0_; clear n0_; (try clear hb); (try clear hb2); (try clear hk); (try clear hi); (try simp only [errW_none, errW_some])) | ((with_reducible refine gate_callee (f := 30) rfl ?_); refine goesL_ (some 100) rfl rfl Tryd.func30 (by kernel_rfl) rfl #[.string a0, .int .i64 ji137] rfl (by (try simp only [List.map_toArray, List.map_cons, List.map_nil]); first | done | (simp only [hji137]; rfl) | rfl | (simp only [List.length_drop, List.length_take]; rfl)) ?_; (with_reducible refine (path_Strip.calls k a0 ji137 t215 (some q219) _ A138.out).mono ?_); rintro e w' ⟨rfl, ⟨nd, rfl⟩⟩; refine ⟨_, rfl, ?_⟩; (try simp only [errW_none, errW_some])) | ((with_reducible refine gate_callee (f := 30) rfl ?_); refine goesL_ (some 107) rfl rfl Tryd.func30 (by kernel_rfl) rfl #[.string a0, .int .i64 ((ji137) + 1)] rfl (by (try simp only [List.map_toArray, List.map_cons, List.map_nil]); first | done | (simp only [hji137]; rfl) | rfl | (simp only [List.length_drop, List.length_take]; rfl)) ?_; (with_reducible refine (path_Strip.calls k a0 ((ji137) + 1) t217 (some q225) _ A139.out).mono ?_); rintro e w' ⟨rfl, ⟨nd, rfl⟩⟩; refine ⟨_, rfl, ?_⟩; (try simp only [errW_none, errW_some])) | ((with_reducible refine gate_callee (f := 28) rfl ?_); refine goesL_ (some 129) rfl rfl Tryd.func28 (by kernel_rfl) rfl #[] rfl (by (try simp only [List.map_toArray, List.map_cons, List.map_nil]); first | done | rfl | (simp only [List.length_drop, List.length_take]; rfl)) ?_; (with_reducible refine (selvagelaw03_sure.calls k  t226 _ ?side1 A159.out).mono ?_); (case side1 => exact Glob.below hGL (by repeat (first | (with_reducible first | exact HB.out | apply below_alloc | apply pw_below_drewN | apply below_drew1) | exact HB.out))); rintro e w162 ⟨rfl, hb⟩; refine ⟨_, rfl, ?_⟩; have n0_ := Aside0.mk (below_step (by repeat (first | (with_reducible first | exact HB.out | apply below_alloc | apply pw_below_drewN | apply below_drew1) | exact HB.out)) hb); clear HB; have HB := n0_; clear n0_; (try clear hb); (try clear hb2); (try clear hk); (try clear hi)))
          go_ret
          exact ⟨by first | rfl | (simp [errW_none, errW_some] <;> rfl) | (simp only [← hji136, ← hji137]; first | rfl | (simp [errW_none, errW_some] <;> rfl)) | (simp [*, errW_none, errW_some] <;> rfl) | (simp only [i64_w, i32_w, u8_w]; first | rfl | (simp [errW_none, errW_some] <;> rfl)) | (simp only [bne_nil, beq_nil]; first | rfl | (simp <;> rfl)), by repeat (first | (with_reducible first | exact HB.out | apply below_alloc | apply pw_below_drewN | apply below_drew1) | exact HB.out)⟩
end Go.Proofs.YtflkehpgkiomdaaDoor.Pk
