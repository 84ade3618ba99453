/- Functions of the given program as plain Lean functions, each with the proof that a call of it comes to what that function says (no conditions beside those in the statements). Written by a program of the session (myprint.py). -/
import Derived.Test.YtffmdbbndfmgdaaP0
import Derived.Test.YtffmdbbndfmgdaaP2
import Derived.Test.YtffmdbbndfmgdaaP3
namespace Go.Proofs.Ytffmdbbndfmgdaa.P
open Go.RowKit Go.Proofs.YtffmdbbndfmgdaaW.PrintWords Go.Proofs.YtffmdbbndfmgdaaW.PrintLast Go.Proofs.YtffmdbbndfmgdaaW.PrintMore
attribute [local go_sem] max2_int min2_int max_two min_two max_three min_three max_four min_four   -- for this text's walks alone
set_option linter.unusedVariables false
set_option linter.unusedSimpArgs false

/-! ### agoralaw04_GroupField: function 4 -/
def agoralaw04_GroupField.f (k : Nat) (a0 : Int) (a1 : Int) (a2 : Int) : Option (Bool) := (agoralaw04_small.f k).bind fun t196 => ((group_Add.f a0 0).bind fun t197 => ((agoralaw04_in.f t197 2305843009213693951).bind fun t198 => (if t198 = true then ((group_Mul.f k a0 1).bind fun t199 => (if t199 = t197 then ((group_Sub.f a0 0).bind fun t200 => (if t200 = t197 then ((group_Add.f t197 2305843009213693951).bind fun t201 => (if t201 = t197 then ((group_Sub.f a0 a0).bind fun t202 => ((group_Add.f a0 a1).bind fun t203 => ((group_Add.f a1 a0).bind fun t204 => (if t203 = t204 then ((group_Mul.f k a0 a1).bind fun t205 => ((group_Mul.f k a1 a0).bind fun t206 => (if t205 = t206 then ((group_Add.f a0 a1).bind fun t207 => ((group_Sub.f t207 a1).bind fun t208 => ((group_Add.f t207 a2).bind fun t209 => ((group_Add.f a1 a2).bind fun t210 => ((group_Add.f a0 t210).bind fun t211 => (if t209 = t211 then ((group_Mul.f k t205 a2).bind fun t212 => ((group_Mul.f k a1 a2).bind fun t213 => ((group_Mul.f k a0 t213).bind fun t214 => ((group_Add.f a1 a2).bind fun t215 => ((group_Mul.f k a0 t215).bind fun t216 => ((group_Mul.f k a0 a2).bind fun t217 => ((group_Add.f t205 t217).bind fun t218 => ((group_Inv.f k a0).bind fun bt219 => (if (bt219.2 == (t197 != 0)) = true then (if bt219.2 = true then ((agoralaw04_in.f bt219.1 2305843009213693951).bind fun t221 => (if t221 = true then ((group_Mul.f k a0 bt219.1).bind fun t222 => (if t222 = 1 then ((group_Mul.f k t206 bt219.1).bind fun t223 => ((group_Add.f a1 0).bind fun t224 => (if t197 = 0 then (none) else (if t196 = true then (if t202 = 0 then (if t208 = t197 then (if t212 = t214 then (if t216 = t218 then (if t223 = t224 then (some ((t205 == 0) == (t224 == 0))) else (none)) else (none)) else (none)) else (none)) else (none)) else (none))))) else (none))) else (none))) else (if t197 = 0 then (if t196 = true then (if t202 = 0 then (if t208 = t197 then (if t212 = t214 then (if t216 = t218 then (some ((t205 == 0) == true)) else (none)) else (none)) else (none)) else (none)) else (none)) else (none))) else (none)))))))))) else (none))))))) else (none)))) else (none))))) else (none))) else (none))) else (none))) else (none))))
theorem agoralaw04_GroupField.mono : ∀ a0 a1 a2 k, LeO (agoralaw04_GroupField.f k a0 a1 a2) (agoralaw04_GroupField.f (k + 1) a0 a1 a2) := by
  intro a0 a1 a2 k
  unfold agoralaw04_GroupField.f
  repeat' first
      | (with_reducible exact agoralaw04_small.mono _)
      | (with_reducible exact group_Inv.mono _ _)
      | (with_reducible exact group_Mul.mono _ _ _)
      | (with_reducible exact LeO.refl _)
      | (with_reducible exact LeO.none _)
      | (with_reducible refine LeO.ite ?_ ?_)
      | (with_reducible refine LeO.bind ?_ (fun _ => ?_))
      | exact agoralaw04_small.mono _
      | exact group_Inv.mono _ _
      | exact group_Mul.mono _ _ _
      | exact LeO.none _
      | refine LeO.ite ?_ ?_
      | refine LeO.bind ?_ (fun _ => ?_)
set_option maxHeartbeats 8000000 in
set_option maxRecDepth 100000 in
theorem agoralaw04_GroupField.calls (k : Nat) (a0 : Int) (a1 : Int) (a2 : Int) (r : Bool) (w : World) (h : agoralaw04_GroupField.f k a0 a1 a2 = some r) :
    Calls Try.prog 4 #[.int .i64 a0, .int .i64 a1, .int .i64 a2] w fun e w' => e = .returned (.bool r) ∧ Drawn0 w w' := by
  have H : ((agoralaw04_small.f k).bind fun t196 => ((group_Add.f a0 0).bind fun t197 => ((agoralaw04_in.f t197 2305843009213693951).bind fun t198 => (if t198 = true then ((group_Mul.f k a0 1).bind fun t199 => (if t199 = t197 then ((group_Sub.f a0 0).bind fun t200 => (if t200 = t197 then ((group_Add.f t197 2305843009213693951).bind fun t201 => (if t201 = t197 then ((group_Sub.f a0 a0).bind fun t202 => ((group_Add.f a0 a1).bind fun t203 => ((group_Add.f a1 a0).bind fun t204 => (if t203 = t204 then ((group_Mul.f k a0 a1).bind fun t205 => ((group_Mul.f k a1 a0).bind fun t206 => (if t205 = t206 then ((group_Add.f a0 a1).bind fun t207 => ((group_Sub.f t207 a1).bind fun t208 => ((group_Add.f t207 a2).bind fun t209 => ((group_Add.f a1 a2).bind fun t210 => ((group_Add.f a0 t210).bind fun t211 => (if t209 = t211 then ((group_Mul.f k t205 a2).bind fun t212 => ((group_Mul.f k a1 a2).bind fun t213 => ((group_Mul.f k a0 t213).bind fun t214 => ((group_Add.f a1 a2).bind fun t215 => ((group_Mul.f k a0 t215).bind fun t216 => ((group_Mul.f k a0 a2).bind fun t217 => ((group_Add.f t205 t217).bind fun t218 => ((group_Inv.f k a0).bind fun bt219 => (if (bt219.2 == (t197 != 0)) = true then (if bt219.2 = true then ((agoralaw04_in.f bt219.1 2305843009213693951).bind fun t221 => (if t221 = true then ((group_Mul.f k a0 bt219.1).bind fun t222 => (if t222 = 1 then ((group_Mul.f k t206 bt219.1).bind fun t223 => ((group_Add.f a1 0).bind fun t224 => (if t197 = 0 then (none) else (if t196 = true then (if t202 = 0 then (if t208 = t197 then (if t212 = t214 then (if t216 = t218 then (if t223 = t224 then (some ((t205 == 0) == (t224 == 0))) else (none)) else (none)) else (none)) else (none)) else (none)) else (none))))) else (none))) else (none))) else (if t197 = 0 then (if t196 = true then (if t202 = 0 then (if t208 = t197 then (if t212 = t214 then (if t216 = t218 then (some ((t205 == 0) == true)) else (none)) else (none)) else (none)) else (none)) else (none)) else (none))) else (none)))))))))) else (none))))))) else (none)))) else (none))))) else (none))) else (none))) else (none))) else (none))))) = some r := h
  clear h
  replace H := Option.bind_eq_some_iff.mp H
  obtain ⟨t196, A40, H⟩ := H
  replace H : ((group_Add.f a0 0).bind fun t197 => ((agoralaw04_in.f t197 2305843009213693951).bind fun t198 => (if t198 = true then ((group_Mul.f k a0 1).bind fun t199 => (if t199 = t197 then ((group_Sub.f a0 0).bind fun t200 => (if t200 = t197 then ((group_Add.f t197 2305843009213693951).bind fun t201 => (if t201 = t197 then ((group_Sub.f a0 a0).bind fun t202 => ((group_Add.f a0 a1).bind fun t203 => ((group_Add.f a1 a0).bind fun t204 => (if t203 = t204 then ((group_Mul.f k a0 a1).bind fun t205 => ((group_Mul.f k a1 a0).bind fun t206 => (if t205 = t206 then ((group_Add.f a0 a1).bind fun t207 => ((group_Sub.f t207 a1).bind fun t208 => ((group_Add.f t207 a2).bind fun t209 => ((group_Add.f a1 a2).bind fun t210 => ((group_Add.f a0 t210).bind fun t211 => (if t209 = t211 then ((group_Mul.f k t205 a2).bind fun t212 => ((group_Mul.f k a1 a2).bind fun t213 => ((group_Mul.f k a0 t213).bind fun t214 => ((group_Add.f a1 a2).bind fun t215 => ((group_Mul.f k a0 t215).bind fun t216 => ((group_Mul.f k a0 a2).bind fun t217 => ((group_Add.f t205 t217).bind fun t218 => ((group_Inv.f k a0).bind fun bt219 => (if (bt219.2 == (t197 != 0)) = true then (if bt219.2 = true then ((agoralaw04_in.f bt219.1 2305843009213693951).bind fun t221 => (if t221 = true then ((group_Mul.f k a0 bt219.1).bind fun t222 => (if t222 = 1 then ((group_Mul.f k t206 bt219.1).bind fun t223 => ((group_Add.f a1 0).bind fun t224 => (if t197 = 0 then (none) else (if t196 = true then (if t202 = 0 then (if t208 = t197 then (if t212 = t214 then (if t216 = t218 then (if t223 = t224 then (some ((t205 == 0) == (t224 == 0))) else (none)) else (none)) else (none)) else (none)) else (none)) else (none))))) else (none))) else (none))) else (if t197 = 0 then (if t196 = true then (if t202 = 0 then (if t208 = t197 then (if t212 = t214 then (if t216 = t218 then (some ((t205 == 0) == true)) else (none)) else (none)) else (none)) else (none)) else (none)) else (none))) else (none)))))))))) else (none))))))) else (none)))) else (none))))) else (none))) else (none))) else (none))) else (none)))) = some r := H
  have A4 := Aside0.mk A40
  clear A40
  replace H := Option.bind_eq_some_iff.mp H
  obtain ⟨t197, A50, H⟩ := H
  replace H : ((agoralaw04_in.f t197 2305843009213693951).bind fun t198 => (if t198 = true then ((group_Mul.f k a0 1).bind fun t199 => (if t199 = t197 then ((group_Sub.f a0 0).bind fun t200 => (if t200 = t197 then ((group_Add.f t197 2305843009213693951).bind fun t201 => (if t201 = t197 then ((group_Sub.f a0 a0).bind fun t202 => ((group_Add.f a0 a1).bind fun t203 => ((group_Add.f a1 a0).bind fun t204 => (if t203 = t204 then ((group_Mul.f k a0 a1).bind fun t205 => ((group_Mul.f k a1 a0).bind fun t206 => (if t205 = t206 then ((group_Add.f a0 a1).bind fun t207 => ((group_Sub.f t207 a1).bind fun t208 => ((group_Add.f t207 a2).bind fun t209 => ((group_Add.f a1 a2).bind fun t210 => ((group_Add.f a0 t210).bind fun t211 => (if t209 = t211 then ((group_Mul.f k t205 a2).bind fun t212 => ((group_Mul.f k a1 a2).bind fun t213 => ((group_Mul.f k a0 t213).bind fun t214 => ((group_Add.f a1 a2).bind fun t215 => ((group_Mul.f k a0 t215).bind fun t216 => ((group_Mul.f k a0 a2).bind fun t217 => ((group_Add.f t205 t217).bind fun t218 => ((group_Inv.f k a0).bind fun bt219 => (if (bt219.2 == (t197 != 0)) = true then (if bt219.2 = true then ((agoralaw04_in.f bt219.1 2305843009213693951).bind fun t221 => (if t221 = true then ((group_Mul.f k a0 bt219.1).bind fun t222 => (if t222 = 1 then ((group_Mul.f k t206 bt219.1).bind fun t223 => ((group_Add.f a1 0).bind fun t224 => (if t197 = 0 then (none) else (if t196 = true then (if t202 = 0 then (if t208 = t197 then (if t212 = t214 then (if t216 = t218 then (if t223 = t224 then (some ((t205 == 0) == (t224 == 0))) else (none)) else (none)) else (none)) else (none)) else (none)) else (none))))) else (none))) else (none))) else (if t197 = 0 then (if t196 = true then (if t202 = 0 then (if t208 = t197 then (if t212 = t214 then (if t216 = t218 then (some ((t205 == 0) == true)) else (none)) else (none)) else (none)) else (none)) else (none)) else (none))) else (none)))))))))) else (none))))))) else (none)))) else (none))))) else (none))) else (none))) else (none))) else (none))) = some r := H
  have A5 := Aside0.mk A50
  clear A50
  replace H := Option.bind_eq_some_iff.mp H
  obtain ⟨t198, A60, H⟩ := H
  replace H : (if t198 = true then ((group_Mul.f k a0 1).bind fun t199 => (if t199 = t197 then ((group_Sub.f a0 0).bind fun t200 => (if t200 = t197 then ((group_Add.f t197 2305843009213693951).bind fun t201 => (if t201 = t197 then ((group_Sub.f a0 a0).bind fun t202 => ((group_Add.f a0 a1).bind fun t203 => ((group_Add.f a1 a0).bind fun t204 => (if t203 = t204 then ((group_Mul.f k a0 a1).bind fun t205 => ((group_Mul.f k a1 a0).bind fun t206 => (if t205 = t206 then ((group_Add.f a0 a1).bind fun t207 => ((group_Sub.f t207 a1).bind fun t208 => ((group_Add.f t207 a2).bind fun t209 => ((group_Add.f a1 a2).bind fun t210 => ((group_Add.f a0 t210).bind fun t211 => (if t209 = t211 then ((group_Mul.f k t205 a2).bind fun t212 => ((group_Mul.f k a1 a2).bind fun t213 => ((group_Mul.f k a0 t213).bind fun t214 => ((group_Add.f a1 a2).bind fun t215 => ((group_Mul.f k a0 t215).bind fun t216 => ((group_Mul.f k a0 a2).bind fun t217 => ((group_Add.f t205 t217).bind fun t218 => ((group_Inv.f k a0).bind fun bt219 => (if (bt219.2 == (t197 != 0)) = true then (if bt219.2 = true then ((agoralaw04_in.f bt219.1 2305843009213693951).bind fun t221 => (if t221 = true then ((group_Mul.f k a0 bt219.1).bind fun t222 => (if t222 = 1 then ((group_Mul.f k t206 bt219.1).bind fun t223 => ((group_Add.f a1 0).bind fun t224 => (if t197 = 0 then (none) else (if t196 = true then (if t202 = 0 then (if t208 = t197 then (if t212 = t214 then (if t216 = t218 then (if t223 = t224 then (some ((t205 == 0) == (t224 == 0))) else (none)) else (none)) else (none)) else (none)) else (none)) else (none))))) else (none))) else (none))) else (if t197 = 0 then (if t196 = true then (if t202 = 0 then (if t208 = t197 then (if t212 = t214 then (if t216 = t218 then (some ((t205 == 0) == true)) else (none)) else (none)) else (none)) else (none)) else (none)) else (none))) else (none)))))))))) else (none))))))) else (none)))) else (none))))) else (none))) else (none))) else (none))) else (none)) = some r := H
  have A6 := Aside0.mk A60
  clear A60
  by_cases c7 : t198 = true
  · subst c7
    have H1 : ((group_Mul.f k a0 1).bind fun t199 => (if t199 = t197 then ((group_Sub.f a0 0).bind fun t200 => (if t200 = t197 then ((group_Add.f t197 2305843009213693951).bind fun t201 => (if t201 = t197 then ((group_Sub.f a0 a0).bind fun t202 => ((group_Add.f a0 a1).bind fun t203 => ((group_Add.f a1 a0).bind fun t204 => (if t203 = t204 then ((group_Mul.f k a0 a1).bind fun t205 => ((group_Mul.f k a1 a0).bind fun t206 => (if t205 = t206 then ((group_Add.f a0 a1).bind fun t207 => ((group_Sub.f t207 a1).bind fun t208 => ((group_Add.f t207 a2).bind fun t209 => ((group_Add.f a1 a2).bind fun t210 => ((group_Add.f a0 t210).bind fun t211 => (if t209 = t211 then ((group_Mul.f k t205 a2).bind fun t212 => ((group_Mul.f k a1 a2).bind fun t213 => ((group_Mul.f k a0 t213).bind fun t214 => ((group_Add.f a1 a2).bind fun t215 => ((group_Mul.f k a0 t215).bind fun t216 => ((group_Mul.f k a0 a2).bind fun t217 => ((group_Add.f t205 t217).bind fun t218 => ((group_Inv.f k a0).bind fun bt219 => (if (bt219.2 == (t197 != 0)) = true then (if bt219.2 = true then ((agoralaw04_in.f bt219.1 2305843009213693951).bind fun t221 => (if t221 = true then ((group_Mul.f k a0 bt219.1).bind fun t222 => (if t222 = 1 then ((group_Mul.f k t206 bt219.1).bind fun t223 => ((group_Add.f a1 0).bind fun t224 => (if t197 = 0 then (none) else (if t196 = true then (if t202 = 0 then (if t208 = t197 then (if t212 = t214 then (if t216 = t218 then (if t223 = t224 then (some ((t205 == 0) == (t224 == 0))) else (none)) else (none)) else (none)) else (none)) else (none)) else (none))))) else (none))) else (none))) else (if t197 = 0 then (if t196 = true then (if t202 = 0 then (if t208 = t197 then (if t212 = t214 then (if t216 = t218 then (some ((t205 == 0) == true)) else (none)) else (none)) else (none)) else (none)) else (none)) else (none))) else (none)))))))))) else (none))))))) else (none)))) else (none))))) else (none))) else (none))) else (none))) = some r := by rw [if_pos rfl] at H; exact H
    clear H
    have H := H1
    clear H1
    replace H := Option.bind_eq_some_iff.mp H
    obtain ⟨t199, A80, H⟩ := H
    replace H : (if t199 = t197 then ((group_Sub.f a0 0).bind fun t200 => (if t200 = t197 then ((group_Add.f t197 2305843009213693951).bind fun t201 => (if t201 = t197 then ((group_Sub.f a0 a0).bind fun t202 => ((group_Add.f a0 a1).bind fun t203 => ((group_Add.f a1 a0).bind fun t204 => (if t203 = t204 then ((group_Mul.f k a0 a1).bind fun t205 => ((group_Mul.f k a1 a0).bind fun t206 => (if t205 = t206 then ((group_Add.f a0 a1).bind fun t207 => ((group_Sub.f t207 a1).bind fun t208 => ((group_Add.f t207 a2).bind fun t209 => ((group_Add.f a1 a2).bind fun t210 => ((group_Add.f a0 t210).bind fun t211 => (if t209 = t211 then ((group_Mul.f k t205 a2).bind fun t212 => ((group_Mul.f k a1 a2).bind fun t213 => ((group_Mul.f k a0 t213).bind fun t214 => ((group_Add.f a1 a2).bind fun t215 => ((group_Mul.f k a0 t215).bind fun t216 => ((group_Mul.f k a0 a2).bind fun t217 => ((group_Add.f t205 t217).bind fun t218 => ((group_Inv.f k a0).bind fun bt219 => (if (bt219.2 == (t197 != 0)) = true then (if bt219.2 = true then ((agoralaw04_in.f bt219.1 2305843009213693951).bind fun t221 => (if t221 = true then ((group_Mul.f k a0 bt219.1).bind fun t222 => (if t222 = 1 then ((group_Mul.f k t206 bt219.1).bind fun t223 => ((group_Add.f a1 0).bind fun t224 => (if t197 = 0 then (none) else (if t196 = true then (if t202 = 0 then (if t208 = t197 then (if t212 = t214 then (if t216 = t218 then (if t223 = t224 then (some ((t205 == 0) == (t224 == 0))) else (none)) else (none)) else (none)) else (none)) else (none)) else (none))))) else (none))) else (none))) else (if t197 = 0 then (if t196 = true then (if t202 = 0 then (if t208 = t197 then (if t212 = t214 then (if t216 = t218 then (some ((t205 == 0) == true)) else (none)) else (none)) else (none)) else (none)) else (none)) else (none))) else (none)))))))))) else (none))))))) else (none)))) else (none))))) else (none))) else (none))) else (none)) = some r := H
    have A8 := Aside0.mk A80
    clear A80
    by_cases c9 : t199 = t197
    · rw [if_pos c9] at H
      have c9b0 : (t199 == t197) = true := beq_iff_eq.mpr c9
      have c9b1 : (t199 != t197) = false := bne_eq_false_iff_eq.mpr c9
      clear c9
      replace H := Option.bind_eq_some_iff.mp H
      obtain ⟨t200, A100, H⟩ := H
      replace H : (if t200 = t197 then ((group_Add.f t197 2305843009213693951).bind fun t201 => (if t201 = t197 then ((group_Sub.f a0 a0).bind fun t202 => ((group_Add.f a0 a1).bind fun t203 => ((group_Add.f a1 a0).bind fun t204 => (if t203 = t204 then ((group_Mul.f k a0 a1).bind fun t205 => ((group_Mul.f k a1 a0).bind fun t206 => (if t205 = t206 then ((group_Add.f a0 a1).bind fun t207 => ((group_Sub.f t207 a1).bind fun t208 => ((group_Add.f t207 a2).bind fun t209 => ((group_Add.f a1 a2).bind fun t210 => ((group_Add.f a0 t210).bind fun t211 => (if t209 = t211 then ((group_Mul.f k t205 a2).bind fun t212 => ((group_Mul.f k a1 a2).bind fun t213 => ((group_Mul.f k a0 t213).bind fun t214 => ((group_Add.f a1 a2).bind fun t215 => ((group_Mul.f k a0 t215).bind fun t216 => ((group_Mul.f k a0 a2).bind fun t217 => ((group_Add.f t205 t217).bind fun t218 => ((group_Inv.f k a0).bind fun bt219 => (if (bt219.2 == (t197 != 0)) = true then (if bt219.2 = true then ((agoralaw04_in.f bt219.1 2305843009213693951).bind fun t221 => (if t221 = true then ((group_Mul.f k a0 bt219.1).bind fun t222 => (if t222 = 1 then ((group_Mul.f k t206 bt219.1).bind fun t223 => ((group_Add.f a1 0).bind fun t224 => (if t197 = 0 then (none) else (if t196 = true then (if t202 = 0 then (if t208 = t197 then (if t212 = t214 then (if t216 = t218 then (if t223 = t224 then (some ((t205 == 0) == (t224 == 0))) else (none)) else (none)) else (none)) else (none)) else (none)) else (none))))) else (none))) else (none))) else (if t197 = 0 then (if t196 = true then (if t202 = 0 then (if t208 = t197 then (if t212 = t214 then (if t216 = t218 then (some ((t205 == 0) == true)) else (none)) else (none)) else (none)) else (none)) else (none)) else (none))) else (none)))))))))) else (none))))))) else (none)))) else (none))))) else (none))) else (none)) = some r := H
      have A10 := Aside0.mk A100
      clear A100
      by_cases c11 : t200 = t197
      · rw [if_pos c11] at H
        have c11b0 : (t200 == t197) = true := beq_iff_eq.mpr c11
        have c11b1 : (t200 != t197) = false := bne_eq_false_iff_eq.mpr c11
        clear c11
        replace H := Option.bind_eq_some_iff.mp H
        obtain ⟨t201, A120, H⟩ := H
        replace H : (if t201 = t197 then ((group_Sub.f a0 a0).bind fun t202 => ((group_Add.f a0 a1).bind fun t203 => ((group_Add.f a1 a0).bind fun t204 => (if t203 = t204 then ((group_Mul.f k a0 a1).bind fun t205 => ((group_Mul.f k a1 a0).bind fun t206 => (if t205 = t206 then ((group_Add.f a0 a1).bind fun t207 => ((group_Sub.f t207 a1).bind fun t208 => ((group_Add.f t207 a2).bind fun t209 => ((group_Add.f a1 a2).bind fun t210 => ((group_Add.f a0 t210).bind fun t211 => (if t209 = t211 then ((group_Mul.f k t205 a2).bind fun t212 => ((group_Mul.f k a1 a2).bind fun t213 => ((group_Mul.f k a0 t213).bind fun t214 => ((group_Add.f a1 a2).bind fun t215 => ((group_Mul.f k a0 t215).bind fun t216 => ((group_Mul.f k a0 a2).bind fun t217 => ((group_Add.f t205 t217).bind fun t218 => ((group_Inv.f k a0).bind fun bt219 => (if (bt219.2 == (t197 != 0)) = true then (if bt219.2 = true then ((agoralaw04_in.f bt219.1 2305843009213693951).bind fun t221 => (if t221 = true then ((group_Mul.f k a0 bt219.1).bind fun t222 => (if t222 = 1 then ((group_Mul.f k t206 bt219.1).bind fun t223 => ((group_Add.f a1 0).bind fun t224 => (if t197 = 0 then (none) else (if t196 = true then (if t202 = 0 then (if t208 = t197 then (if t212 = t214 then (if t216 = t218 then (if t223 = t224 then (some ((t205 == 0) == (t224 == 0))) else (none)) else (none)) else (none)) else (none)) else (none)) else (none))))) else (none))) else (none))) else (if t197 = 0 then (if t196 = true then (if t202 = 0 then (if t208 = t197 then (if t212 = t214 then (if t216 = t218 then (some ((t205 == 0) == true)) else (none)) else (none)) else (none)) else (none)) else (none)) else (none))) else (none)))))))))) else (none))))))) else (none)))) else (none))))) else (none)) = some r := H
        have A12 := Aside0.mk A120
        clear A120
        by_cases c13 : t201 = t197
        · rw [if_pos c13] at H
          have c13b0 : (t201 == t197) = true := beq_iff_eq.mpr c13
          have c13b1 : (t201 != t197) = false := bne_eq_false_iff_eq.mpr c13
          clear c13
          replace H := Option.bind_eq_some_iff.mp H
          obtain ⟨t202, A140, H⟩ := H
          replace H : ((group_Add.f a0 a1).bind fun t203 => ((group_Add.f a1 a0).bind fun t204 => (if t203 = t204 then ((group_Mul.f k a0 a1).bind fun t205 => ((group_Mul.f k a1 a0).bind fun t206 => (if t205 = t206 then ((group_Add.f a0 a1).bind fun t207 => ((group_Sub.f t207 a1).bind fun t208 => ((group_Add.f t207 a2).bind fun t209 => ((group_Add.f a1 a2).bind fun t210 => ((group_Add.f a0 t210).bind fun t211 => (if t209 = t211 then ((group_Mul.f k t205 a2).bind fun t212 => ((group_Mul.f k a1 a2).bind fun t213 => ((group_Mul.f k a0 t213).bind fun t214 => ((group_Add.f a1 a2).bind fun t215 => ((group_Mul.f k a0 t215).bind fun t216 => ((group_Mul.f k a0 a2).bind fun t217 => ((group_Add.f t205 t217).bind fun t218 => ((group_Inv.f k a0).bind fun bt219 => (if (bt219.2 == (t197 != 0)) = true then (if bt219.2 = true then ((agoralaw04_in.f bt219.1 2305843009213693951).bind fun t221 => (if t221 = true then ((group_Mul.f k a0 bt219.1).bind fun t222 => (if t222 = 1 then ((group_Mul.f k t206 bt219.1).bind fun t223 => ((group_Add.f a1 0).bind fun t224 => (if t197 = 0 then (none) else (if t196 = true then (if t202 = 0 then (if t208 = t197 then (if t212 = t214 then (if t216 = t218 then (if t223 = t224 then (some ((t205 == 0) == (t224 == 0))) else (none)) else (none)) else (none)) else (none)) else (none)) else (none))))) else (none))) else (none))) else (if t197 = 0 then (if t196 = true then (if t202 = 0 then (if t208 = t197 then (if t212 = t214 then (if t216 = t218 then (some ((t205 == 0) == true)) else (none)) else (none)) else (none)) else (none)) else (none)) else (none))) else (none)))))))))) else (none))))))) else (none)))) else (none)))) = some r := H
          have A14 := Aside0.mk A140
          clear A140
          replace H := Option.bind_eq_some_iff.mp H
          obtain ⟨t203, A150, H⟩ := H
          replace H : ((group_Add.f a1 a0).bind fun t204 => (if t203 = t204 then ((group_Mul.f k a0 a1).bind fun t205 => ((group_Mul.f k a1 a0).bind fun t206 => (if t205 = t206 then ((group_Add.f a0 a1).bind fun t207 => ((group_Sub.f t207 a1).bind fun t208 => ((group_Add.f t207 a2).bind fun t209 => ((group_Add.f a1 a2).bind fun t210 => ((group_Add.f a0 t210).bind fun t211 => (if t209 = t211 then ((group_Mul.f k t205 a2).bind fun t212 => ((group_Mul.f k a1 a2).bind fun t213 => ((group_Mul.f k a0 t213).bind fun t214 => ((group_Add.f a1 a2).bind fun t215 => ((group_Mul.f k a0 t215).bind fun t216 => ((group_Mul.f k a0 a2).bind fun t217 => ((group_Add.f t205 t217).bind fun t218 => ((group_Inv.f k a0).bind fun bt219 => (if (bt219.2 == (t197 != 0)) = true then (if bt219.2 = true then ((agoralaw04_in.f bt219.1 2305843009213693951).bind fun t221 => (if t221 = true then ((group_Mul.f k a0 bt219.1).bind fun t222 => (if t222 = 1 then ((group_Mul.f k t206 bt219.1).bind fun t223 => ((group_Add.f a1 0).bind fun t224 => (if t197 = 0 then (none) else (if t196 = true then (if t202 = 0 then (if t208 = t197 then (if t212 = t214 then (if t216 = t218 then (if t223 = t224 then (some ((t205 == 0) == (t224 == 0))) else (none)) else (none)) else (none)) else (none)) else (none)) else (none))))) else (none))) else (none))) else (if t197 = 0 then (if t196 = true then (if t202 = 0 then (if t208 = t197 then (if t212 = t214 then (if t216 = t218 then (some ((t205 == 0) == true)) else (none)) else (none)) else (none)) else (none)) else (none)) else (none))) else (none)))))))))) else (none))))))) else (none)))) else (none))) = some r := H
          have A15 := Aside0.mk A150
          clear A150
          replace H := Option.bind_eq_some_iff.mp H
          obtain ⟨t204, A160, H⟩ := H
          replace H : (if t203 = t204 then ((group_Mul.f k a0 a1).bind fun t205 => ((group_Mul.f k a1 a0).bind fun t206 => (if t205 = t206 then ((group_Add.f a0 a1).bind fun t207 => ((group_Sub.f t207 a1).bind fun t208 => ((group_Add.f t207 a2).bind fun t209 => ((group_Add.f a1 a2).bind fun t210 => ((group_Add.f a0 t210).bind fun t211 => (if t209 = t211 then ((group_Mul.f k t205 a2).bind fun t212 => ((group_Mul.f k a1 a2).bind fun t213 => ((group_Mul.f k a0 t213).bind fun t214 => ((group_Add.f a1 a2).bind fun t215 => ((group_Mul.f k a0 t215).bind fun t216 => ((group_Mul.f k a0 a2).bind fun t217 => ((group_Add.f t205 t217).bind fun t218 => ((group_Inv.f k a0).bind fun bt219 => (if (bt219.2 == (t197 != 0)) = true then (if bt219.2 = true then ((agoralaw04_in.f bt219.1 2305843009213693951).bind fun t221 => (if t221 = true then ((group_Mul.f k a0 bt219.1).bind fun t222 => (if t222 = 1 then ((group_Mul.f k t206 bt219.1).bind fun t223 => ((group_Add.f a1 0).bind fun t224 => (if t197 = 0 then (none) else (if t196 = true then (if t202 = 0 then (if t208 = t197 then (if t212 = t214 then (if t216 = t218 then (if t223 = t224 then (some ((t205 == 0) == (t224 == 0))) else (none)) else (none)) else (none)) else (none)) else (none)) else (none))))) else (none))) else (none))) else (if t197 = 0 then (if t196 = true then (if t202 = 0 then (if t208 = t197 then (if t212 = t214 then (if t216 = t218 then (some ((t205 == 0) == true)) else (none)) else (none)) else (none)) else (none)) else (none)) else (none))) else (none)))))))))) else (none))))))) else (none)))) else (none)) = some r := H
          have A16 := Aside0.mk A160
          clear A160
          by_cases c17 : t203 = t204
          · rw [if_pos c17] at H
            have c17b0 : (t203 == t204) = true := beq_iff_eq.mpr c17
            have c17b1 : (t203 != t204) = false := bne_eq_false_iff_eq.mpr c17
            clear c17
            replace H := Option.bind_eq_some_iff.mp H
            obtain ⟨t205, A180, H⟩ := H
            replace H : ((group_Mul.f k a1 a0).bind fun t206 => (if t205 = t206 then ((group_Add.f a0 a1).bind fun t207 => ((group_Sub.f t207 a1).bind fun t208 => ((group_Add.f t207 a2).bind fun t209 => ((group_Add.f a1 a2).bind fun t210 => ((group_Add.f a0 t210).bind fun t211 => (if t209 = t211 then ((group_Mul.f k t205 a2).bind fun t212 => ((group_Mul.f k a1 a2).bind fun t213 => ((group_Mul.f k a0 t213).bind fun t214 => ((group_Add.f a1 a2).bind fun t215 => ((group_Mul.f k a0 t215).bind fun t216 => ((group_Mul.f k a0 a2).bind fun t217 => ((group_Add.f t205 t217).bind fun t218 => ((group_Inv.f k a0).bind fun bt219 => (if (bt219.2 == (t197 != 0)) = true then (if bt219.2 = true then ((agoralaw04_in.f bt219.1 2305843009213693951).bind fun t221 => (if t221 = true then ((group_Mul.f k a0 bt219.1).bind fun t222 => (if t222 = 1 then ((group_Mul.f k t206 bt219.1).bind fun t223 => ((group_Add.f a1 0).bind fun t224 => (if t197 = 0 then (none) else (if t196 = true then (if t202 = 0 then (if t208 = t197 then (if t212 = t214 then (if t216 = t218 then (if t223 = t224 then (some ((t205 == 0) == (t224 == 0))) else (none)) else (none)) else (none)) else (none)) else (none)) else (none))))) else (none))) else (none))) else (if t197 = 0 then (if t196 = true then (if t202 = 0 then (if t208 = t197 then (if t212 = t214 then (if t216 = t218 then (some ((t205 == 0) == true)) else (none)) else (none)) else (none)) else (none)) else (none)) else (none))) else (none)))))))))) else (none))))))) else (none))) = some r := H
            have A18 := Aside0.mk A180
            clear A180
            replace H := Option.bind_eq_some_iff.mp H
            obtain ⟨t206, A190, H⟩ := H
            replace H : (if t205 = t206 then ((group_Add.f a0 a1).bind fun t207 => ((group_Sub.f t207 a1).bind fun t208 => ((group_Add.f t207 a2).bind fun t209 => ((group_Add.f a1 a2).bind fun t210 => ((group_Add.f a0 t210).bind fun t211 => (if t209 = t211 then ((group_Mul.f k t205 a2).bind fun t212 => ((group_Mul.f k a1 a2).bind fun t213 => ((group_Mul.f k a0 t213).bind fun t214 => ((group_Add.f a1 a2).bind fun t215 => ((group_Mul.f k a0 t215).bind fun t216 => ((group_Mul.f k a0 a2).bind fun t217 => ((group_Add.f t205 t217).bind fun t218 => ((group_Inv.f k a0).bind fun bt219 => (if (bt219.2 == (t197 != 0)) = true then (if bt219.2 = true then ((agoralaw04_in.f bt219.1 2305843009213693951).bind fun t221 => (if t221 = true then ((group_Mul.f k a0 bt219.1).bind fun t222 => (if t222 = 1 then ((group_Mul.f k t206 bt219.1).bind fun t223 => ((group_Add.f a1 0).bind fun t224 => (if t197 = 0 then (none) else (if t196 = true then (if t202 = 0 then (if t208 = t197 then (if t212 = t214 then (if t216 = t218 then (if t223 = t224 then (some ((t205 == 0) == (t224 == 0))) else (none)) else (none)) else (none)) else (none)) else (none)) else (none))))) else (none))) else (none))) else (if t197 = 0 then (if t196 = true then (if t202 = 0 then (if t208 = t197 then (if t212 = t214 then (if t216 = t218 then (some ((t205 == 0) == true)) else (none)) else (none)) else (none)) else (none)) else (none)) else (none))) else (none)))))))))) else (none))))))) else (none)) = some r := H
            have A19 := Aside0.mk A190
            clear A190
            by_cases c20 : t205 = t206
            · rw [if_pos c20] at H
              have c20b0 : (t205 == t206) = true := beq_iff_eq.mpr c20
              have c20b1 : (t205 != t206) = false := bne_eq_false_iff_eq.mpr c20
              clear c20
              replace H := Option.bind_eq_some_iff.mp H
              obtain ⟨t207, A210, H⟩ := H
              replace H : ((group_Sub.f t207 a1).bind fun t208 => ((group_Add.f t207 a2).bind fun t209 => ((group_Add.f a1 a2).bind fun t210 => ((group_Add.f a0 t210).bind fun t211 => (if t209 = t211 then ((group_Mul.f k t205 a2).bind fun t212 => ((group_Mul.f k a1 a2).bind fun t213 => ((group_Mul.f k a0 t213).bind fun t214 => ((group_Add.f a1 a2).bind fun t215 => ((group_Mul.f k a0 t215).bind fun t216 => ((group_Mul.f k a0 a2).bind fun t217 => ((group_Add.f t205 t217).bind fun t218 => ((group_Inv.f k a0).bind fun bt219 => (if (bt219.2 == (t197 != 0)) = true then (if bt219.2 = true then ((agoralaw04_in.f bt219.1 2305843009213693951).bind fun t221 => (if t221 = true then ((group_Mul.f k a0 bt219.1).bind fun t222 => (if t222 = 1 then ((group_Mul.f k t206 bt219.1).bind fun t223 => ((group_Add.f a1 0).bind fun t224 => (if t197 = 0 then (none) else (if t196 = true then (if t202 = 0 then (if t208 = t197 then (if t212 = t214 then (if t216 = t218 then (if t223 = t224 then (some ((t205 == 0) == (t224 == 0))) else (none)) else (none)) else (none)) else (none)) else (none)) else (none))))) else (none))) else (none))) else (if t197 = 0 then (if t196 = true then (if t202 = 0 then (if t208 = t197 then (if t212 = t214 then (if t216 = t218 then (some ((t205 == 0) == true)) else (none)) else (none)) else (none)) else (none)) else (none)) else (none))) else (none)))))))))) else (none)))))) = some r := H
              have A21 := Aside0.mk A210
              clear A210
              replace H := Option.bind_eq_some_iff.mp H
              obtain ⟨t208, A220, H⟩ := H
              replace H : ((group_Add.f t207 a2).bind fun t209 => ((group_Add.f a1 a2).bind fun t210 => ((group_Add.f a0 t210).bind fun t211 => (if t209 = t211 then ((group_Mul.f k t205 a2).bind fun t212 => ((group_Mul.f k a1 a2).bind fun t213 => ((group_Mul.f k a0 t213).bind fun t214 => ((group_Add.f a1 a2).bind fun t215 => ((group_Mul.f k a0 t215).bind fun t216 => ((group_Mul.f k a0 a2).bind fun t217 => ((group_Add.f t205 t217).bind fun t218 => ((group_Inv.f k a0).bind fun bt219 => (if (bt219.2 == (t197 != 0)) = true then (if bt219.2 = true then ((agoralaw04_in.f bt219.1 2305843009213693951).bind fun t221 => (if t221 = true then ((group_Mul.f k a0 bt219.1).bind fun t222 => (if t222 = 1 then ((group_Mul.f k t206 bt219.1).bind fun t223 => ((group_Add.f a1 0).bind fun t224 => (if t197 = 0 then (none) else (if t196 = true then (if t202 = 0 then (if t208 = t197 then (if t212 = t214 then (if t216 = t218 then (if t223 = t224 then (some ((t205 == 0) == (t224 == 0))) else (none)) else (none)) else (none)) else (none)) else (none)) else (none))))) else (none))) else (none))) else (if t197 = 0 then (if t196 = true then (if t202 = 0 then (if t208 = t197 then (if t212 = t214 then (if t216 = t218 then (some ((t205 == 0) == true)) else (none)) else (none)) else (none)) else (none)) else (none)) else (none))) else (none)))))))))) else (none))))) = some r := H
              have A22 := Aside0.mk A220
              clear A220
              replace H := Option.bind_eq_some_iff.mp H
              obtain ⟨t209, A230, H⟩ := H
              replace H : ((group_Add.f a1 a2).bind fun t210 => ((group_Add.f a0 t210).bind fun t211 => (if t209 = t211 then ((group_Mul.f k t205 a2).bind fun t212 => ((group_Mul.f k a1 a2).bind fun t213 => ((group_Mul.f k a0 t213).bind fun t214 => ((group_Add.f a1 a2).bind fun t215 => ((group_Mul.f k a0 t215).bind fun t216 => ((group_Mul.f k a0 a2).bind fun t217 => ((group_Add.f t205 t217).bind fun t218 => ((group_Inv.f k a0).bind fun bt219 => (if (bt219.2 == (t197 != 0)) = true then (if bt219.2 = true then ((agoralaw04_in.f bt219.1 2305843009213693951).bind fun t221 => (if t221 = true then ((group_Mul.f k a0 bt219.1).bind fun t222 => (if t222 = 1 then ((group_Mul.f k t206 bt219.1).bind fun t223 => ((group_Add.f a1 0).bind fun t224 => (if t197 = 0 then (none) else (if t196 = true then (if t202 = 0 then (if t208 = t197 then (if t212 = t214 then (if t216 = t218 then (if t223 = t224 then (some ((t205 == 0) == (t224 == 0))) else (none)) else (none)) else (none)) else (none)) else (none)) else (none))))) else (none))) else (none))) else (if t197 = 0 then (if t196 = true then (if t202 = 0 then (if t208 = t197 then (if t212 = t214 then (if t216 = t218 then (some ((t205 == 0) == true)) else (none)) else (none)) else (none)) else (none)) else (none)) else (none))) else (none)))))))))) else (none)))) = some r := H
              have A23 := Aside0.mk A230
              clear A230
              replace H := Option.bind_eq_some_iff.mp H
              obtain ⟨t210, A240, H⟩ := H
              replace H : ((group_Add.f a0 t210).bind fun t211 => (if t209 = t211 then ((group_Mul.f k t205 a2).bind fun t212 => ((group_Mul.f k a1 a2).bind fun t213 => ((group_Mul.f k a0 t213).bind fun t214 => ((group_Add.f a1 a2).bind fun t215 => ((group_Mul.f k a0 t215).bind fun t216 => ((group_Mul.f k a0 a2).bind fun t217 => ((group_Add.f t205 t217).bind fun t218 => ((group_Inv.f k a0).bind fun bt219 => (if (bt219.2 == (t197 != 0)) = true then (if bt219.2 = true then ((agoralaw04_in.f bt219.1 2305843009213693951).bind fun t221 => (if t221 = true then ((group_Mul.f k a0 bt219.1).bind fun t222 => (if t222 = 1 then ((group_Mul.f k t206 bt219.1).bind fun t223 => ((group_Add.f a1 0).bind fun t224 => (if t197 = 0 then (none) else (if t196 = true then (if t202 = 0 then (if t208 = t197 then (if t212 = t214 then (if t216 = t218 then (if t223 = t224 then (some ((t205 == 0) == (t224 == 0))) else (none)) else (none)) else (none)) else (none)) else (none)) else (none))))) else (none))) else (none))) else (if t197 = 0 then (if t196 = true then (if t202 = 0 then (if t208 = t197 then (if t212 = t214 then (if t216 = t218 then (some ((t205 == 0) == true)) else (none)) else (none)) else (none)) else (none)) else (none)) else (none))) else (none)))))))))) else (none))) = some r := H
              have A24 := Aside0.mk A240
              clear A240
              replace H := Option.bind_eq_some_iff.mp H
              obtain ⟨t211, A250, H⟩ := H
              replace H : (if t209 = t211 then ((group_Mul.f k t205 a2).bind fun t212 => ((group_Mul.f k a1 a2).bind fun t213 => ((group_Mul.f k a0 t213).bind fun t214 => ((group_Add.f a1 a2).bind fun t215 => ((group_Mul.f k a0 t215).bind fun t216 => ((group_Mul.f k a0 a2).bind fun t217 => ((group_Add.f t205 t217).bind fun t218 => ((group_Inv.f k a0).bind fun bt219 => (if (bt219.2 == (t197 != 0)) = true then (if bt219.2 = true then ((agoralaw04_in.f bt219.1 2305843009213693951).bind fun t221 => (if t221 = true then ((group_Mul.f k a0 bt219.1).bind fun t222 => (if t222 = 1 then ((group_Mul.f k t206 bt219.1).bind fun t223 => ((group_Add.f a1 0).bind fun t224 => (if t197 = 0 then (none) else (if t196 = true then (if t202 = 0 then (if t208 = t197 then (if t212 = t214 then (if t216 = t218 then (if t223 = t224 then (some ((t205 == 0) == (t224 == 0))) else (none)) else (none)) else (none)) else (none)) else (none)) else (none))))) else (none))) else (none))) else (if t197 = 0 then (if t196 = true then (if t202 = 0 then (if t208 = t197 then (if t212 = t214 then (if t216 = t218 then (some ((t205 == 0) == true)) else (none)) else (none)) else (none)) else (none)) else (none)) else (none))) else (none)))))))))) else (none)) = some r := H
              have A25 := Aside0.mk A250
              clear A250
              by_cases c26 : t209 = t211
              · rw [if_pos c26] at H
                have c26b0 : (t209 == t211) = true := beq_iff_eq.mpr c26
                have c26b1 : (t209 != t211) = false := bne_eq_false_iff_eq.mpr c26
                clear c26
                replace H := Option.bind_eq_some_iff.mp H
                obtain ⟨t212, A270, H⟩ := H
                replace H : ((group_Mul.f k a1 a2).bind fun t213 => ((group_Mul.f k a0 t213).bind fun t214 => ((group_Add.f a1 a2).bind fun t215 => ((group_Mul.f k a0 t215).bind fun t216 => ((group_Mul.f k a0 a2).bind fun t217 => ((group_Add.f t205 t217).bind fun t218 => ((group_Inv.f k a0).bind fun bt219 => (if (bt219.2 == (t197 != 0)) = true then (if bt219.2 = true then ((agoralaw04_in.f bt219.1 2305843009213693951).bind fun t221 => (if t221 = true then ((group_Mul.f k a0 bt219.1).bind fun t222 => (if t222 = 1 then ((group_Mul.f k t206 bt219.1).bind fun t223 => ((group_Add.f a1 0).bind fun t224 => (if t197 = 0 then (none) else (if t196 = true then (if t202 = 0 then (if t208 = t197 then (if t212 = t214 then (if t216 = t218 then (if t223 = t224 then (some ((t205 == 0) == (t224 == 0))) else (none)) else (none)) else (none)) else (none)) else (none)) else (none))))) else (none))) else (none))) else (if t197 = 0 then (if t196 = true then (if t202 = 0 then (if t208 = t197 then (if t212 = t214 then (if t216 = t218 then (some ((t205 == 0) == true)) else (none)) else (none)) else (none)) else (none)) else (none)) else (none))) else (none))))))))) = some r := H
                have A27 := Aside0.mk A270
                clear A270
                replace H := Option.bind_eq_some_iff.mp H
                obtain ⟨t213, A280, H⟩ := H
                replace H : ((group_Mul.f k a0 t213).bind fun t214 => ((group_Add.f a1 a2).bind fun t215 => ((group_Mul.f k a0 t215).bind fun t216 => ((group_Mul.f k a0 a2).bind fun t217 => ((group_Add.f t205 t217).bind fun t218 => ((group_Inv.f k a0).bind fun bt219 => (if (bt219.2 == (t197 != 0)) = true then (if bt219.2 = true then ((agoralaw04_in.f bt219.1 2305843009213693951).bind fun t221 => (if t221 = true then ((group_Mul.f k a0 bt219.1).bind fun t222 => (if t222 = 1 then ((group_Mul.f k t206 bt219.1).bind fun t223 => ((group_Add.f a1 0).bind fun t224 => (if t197 = 0 then (none) else (if t196 = true then (if t202 = 0 then (if t208 = t197 then (if t212 = t214 then (if t216 = t218 then (if t223 = t224 then (some ((t205 == 0) == (t224 == 0))) else (none)) else (none)) else (none)) else (none)) else (none)) else (none))))) else (none))) else (none))) else (if t197 = 0 then (if t196 = true then (if t202 = 0 then (if t208 = t197 then (if t212 = t214 then (if t216 = t218 then (some ((t205 == 0) == true)) else (none)) else (none)) else (none)) else (none)) else (none)) else (none))) else (none)))))))) = some r := H
                have A28 := Aside0.mk A280
                clear A280
                replace H := Option.bind_eq_some_iff.mp H
                obtain ⟨t214, A290, H⟩ := H
                replace H : ((group_Add.f a1 a2).bind fun t215 => ((group_Mul.f k a0 t215).bind fun t216 => ((group_Mul.f k a0 a2).bind fun t217 => ((group_Add.f t205 t217).bind fun t218 => ((group_Inv.f k a0).bind fun bt219 => (if (bt219.2 == (t197 != 0)) = true then (if bt219.2 = true then ((agoralaw04_in.f bt219.1 2305843009213693951).bind fun t221 => (if t221 = true then ((group_Mul.f k a0 bt219.1).bind fun t222 => (if t222 = 1 then ((group_Mul.f k t206 bt219.1).bind fun t223 => ((group_Add.f a1 0).bind fun t224 => (if t197 = 0 then (none) else (if t196 = true then (if t202 = 0 then (if t208 = t197 then (if t212 = t214 then (if t216 = t218 then (if t223 = t224 then (some ((t205 == 0) == (t224 == 0))) else (none)) else (none)) else (none)) else (none)) else (none)) else (none))))) else (none))) else (none))) else (if t197 = 0 then (if t196 = true then (if t202 = 0 then (if t208 = t197 then (if t212 = t214 then (if t216 = t218 then (some ((t205 == 0) == true)) else (none)) else (none)) else (none)) else (none)) else (none)) else (none))) else (none))))))) = some r := H
                have A29 := Aside0.mk A290
                clear A290
                replace H := Option.bind_eq_some_iff.mp H
                obtain ⟨t215, A300, H⟩ := H
                replace H : ((group_Mul.f k a0 t215).bind fun t216 => ((group_Mul.f k a0 a2).bind fun t217 => ((group_Add.f t205 t217).bind fun t218 => ((group_Inv.f k a0).bind fun bt219 => (if (bt219.2 == (t197 != 0)) = true then (if bt219.2 = true then ((agoralaw04_in.f bt219.1 2305843009213693951).bind fun t221 => (if t221 = true then ((group_Mul.f k a0 bt219.1).bind fun t222 => (if t222 = 1 then ((group_Mul.f k t206 bt219.1).bind fun t223 => ((group_Add.f a1 0).bind fun t224 => (if t197 = 0 then (none) else (if t196 = true then (if t202 = 0 then (if t208 = t197 then (if t212 = t214 then (if t216 = t218 then (if t223 = t224 then (some ((t205 == 0) == (t224 == 0))) else (none)) else (none)) else (none)) else (none)) else (none)) else (none))))) else (none))) else (none))) else (if t197 = 0 then (if t196 = true then (if t202 = 0 then (if t208 = t197 then (if t212 = t214 then (if t216 = t218 then (some ((t205 == 0) == true)) else (none)) else (none)) else (none)) else (none)) else (none)) else (none))) else (none)))))) = some r := H
                have A30 := Aside0.mk A300
                clear A300
                replace H := Option.bind_eq_some_iff.mp H
                obtain ⟨t216, A310, H⟩ := H
                replace H : ((group_Mul.f k a0 a2).bind fun t217 => ((group_Add.f t205 t217).bind fun t218 => ((group_Inv.f k a0).bind fun bt219 => (if (bt219.2 == (t197 != 0)) = true then (if bt219.2 = true then ((agoralaw04_in.f bt219.1 2305843009213693951).bind fun t221 => (if t221 = true then ((group_Mul.f k a0 bt219.1).bind fun t222 => (if t222 = 1 then ((group_Mul.f k t206 bt219.1).bind fun t223 => ((group_Add.f a1 0).bind fun t224 => (if t197 = 0 then (none) else (if t196 = true then (if t202 = 0 then (if t208 = t197 then (if t212 = t214 then (if t216 = t218 then (if t223 = t224 then (some ((t205 == 0) == (t224 == 0))) else (none)) else (none)) else (none)) else (none)) else (none)) else (none))))) else (none))) else (none))) else (if t197 = 0 then (if t196 = true then (if t202 = 0 then (if t208 = t197 then (if t212 = t214 then (if t216 = t218 then (some ((t205 == 0) == true)) else (none)) else (none)) else (none)) else (none)) else (none)) else (none))) else (none))))) = some r := H
                have A31 := Aside0.mk A310
                clear A310
                replace H := Option.bind_eq_some_iff.mp H
                obtain ⟨t217, A320, H⟩ := H
                replace H : ((group_Add.f t205 t217).bind fun t218 => ((group_Inv.f k a0).bind fun bt219 => (if (bt219.2 == (t197 != 0)) = true then (if bt219.2 = true then ((agoralaw04_in.f bt219.1 2305843009213693951).bind fun t221 => (if t221 = true then ((group_Mul.f k a0 bt219.1).bind fun t222 => (if t222 = 1 then ((group_Mul.f k t206 bt219.1).bind fun t223 => ((group_Add.f a1 0).bind fun t224 => (if t197 = 0 then (none) else (if t196 = true then (if t202 = 0 then (if t208 = t197 then (if t212 = t214 then (if t216 = t218 then (if t223 = t224 then (some ((t205 == 0) == (t224 == 0))) else (none)) else (none)) else (none)) else (none)) else (none)) else (none))))) else (none))) else (none))) else (if t197 = 0 then (if t196 = true then (if t202 = 0 then (if t208 = t197 then (if t212 = t214 then (if t216 = t218 then (some ((t205 == 0) == true)) else (none)) else (none)) else (none)) else (none)) else (none)) else (none))) else (none)))) = some r := H
                have A32 := Aside0.mk A320
                clear A320
                replace H := Option.bind_eq_some_iff.mp H
                obtain ⟨t218, A330, H⟩ := H
                replace H : ((group_Inv.f k a0).bind fun bt219 => (if (bt219.2 == (t197 != 0)) = true then (if bt219.2 = true then ((agoralaw04_in.f bt219.1 2305843009213693951).bind fun t221 => (if t221 = true then ((group_Mul.f k a0 bt219.1).bind fun t222 => (if t222 = 1 then ((group_Mul.f k t206 bt219.1).bind fun t223 => ((group_Add.f a1 0).bind fun t224 => (if t197 = 0 then (none) else (if t196 = true then (if t202 = 0 then (if t208 = t197 then (if t212 = t214 then (if t216 = t218 then (if t223 = t224 then (some ((t205 == 0) == (t224 == 0))) else (none)) else (none)) else (none)) else (none)) else (none)) else (none))))) else (none))) else (none))) else (if t197 = 0 then (if t196 = true then (if t202 = 0 then (if t208 = t197 then (if t212 = t214 then (if t216 = t218 then (some ((t205 == 0) == true)) else (none)) else (none)) else (none)) else (none)) else (none)) else (none))) else (none))) = some r := H
                have A33 := Aside0.mk A330
                clear A330
                replace H := Option.bind_eq_some_iff.mp H
                obtain ⟨⟨t219, t220⟩, A340, H⟩ := H
                replace H : (if (t220 == (t197 != 0)) = true then (if t220 = true then ((agoralaw04_in.f t219 2305843009213693951).bind fun t221 => (if t221 = true then ((group_Mul.f k a0 t219).bind fun t222 => (if t222 = 1 then ((group_Mul.f k t206 t219).bind fun t223 => ((group_Add.f a1 0).bind fun t224 => (if t197 = 0 then (none) else (if t196 = true then (if t202 = 0 then (if t208 = t197 then (if t212 = t214 then (if t216 = t218 then (if t223 = t224 then (some ((t205 == 0) == (t224 == 0))) else (none)) else (none)) else (none)) else (none)) else (none)) else (none))))) else (none))) else (none))) else (if t197 = 0 then (if t196 = true then (if t202 = 0 then (if t208 = t197 then (if t212 = t214 then (if t216 = t218 then (some ((t205 == 0) == true)) else (none)) else (none)) else (none)) else (none)) else (none)) else (none))) else (none)) = some r := H
                have A34 := Aside0.mk A340
                clear A340
                by_cases c35 : (t220 == (t197 != 0)) = true
                · rw [if_pos c35] at H
                  have c35b0 : (t220 == (t197 != 0)) = true := c35
                  (try (have c35b1 : decide (t220 = (t197 != 0)) = true := by simpa using c35))
                  (try (have c35b2 : (t220 == (t197 != 0)) = true := by simpa using c35))
                  clear c35
                  by_cases c36 : t220 = true
                  · subst c36
                    have H1 : ((agoralaw04_in.f t219 2305843009213693951).bind fun t221 => (if t221 = true then ((group_Mul.f k a0 t219).bind fun t222 => (if t222 = 1 then ((group_Mul.f k t206 t219).bind fun t223 => ((group_Add.f a1 0).bind fun t224 => (if t197 = 0 then (none) else (if t196 = true then (if t202 = 0 then (if t208 = t197 then (if t212 = t214 then (if t216 = t218 then (if t223 = t224 then (some ((t205 == 0) == (t224 == 0))) else (none)) else (none)) else (none)) else (none)) else (none)) else (none))))) else (none))) else (none))) = some r := by rw [if_pos rfl] at H; exact H
                    clear H
                    have H := H1
                    clear H1
                    replace H := Option.bind_eq_some_iff.mp H
                    obtain ⟨t221, A370, H⟩ := H
                    replace H : (if t221 = true then ((group_Mul.f k a0 t219).bind fun t222 => (if t222 = 1 then ((group_Mul.f k t206 t219).bind fun t223 => ((group_Add.f a1 0).bind fun t224 => (if t197 = 0 then (none) else (if t196 = true then (if t202 = 0 then (if t208 = t197 then (if t212 = t214 then (if t216 = t218 then (if t223 = t224 then (some ((t205 == 0) == (t224 == 0))) else (none)) else (none)) else (none)) else (none)) else (none)) else (none))))) else (none))) else (none)) = some r := H
                    have A37 := Aside0.mk A370
                    clear A370
                    by_cases c38 : t221 = true
                    · subst c38
                      have H1 : ((group_Mul.f k a0 t219).bind fun t222 => (if t222 = 1 then ((group_Mul.f k t206 t219).bind fun t223 => ((group_Add.f a1 0).bind fun t224 => (if t197 = 0 then (none) else (if t196 = true then (if t202 = 0 then (if t208 = t197 then (if t212 = t214 then (if t216 = t218 then (if t223 = t224 then (some ((t205 == 0) == (t224 == 0))) else (none)) else (none)) else (none)) else (none)) else (none)) else (none))))) else (none))) = some r := by rw [if_pos rfl] at H; exact H
                      clear H
                      have H := H1
                      clear H1
                      replace H := Option.bind_eq_some_iff.mp H
                      obtain ⟨t222, A390, H⟩ := H
                      replace H : (if t222 = 1 then ((group_Mul.f k t206 t219).bind fun t223 => ((group_Add.f a1 0).bind fun t224 => (if t197 = 0 then (none) else (if t196 = true then (if t202 = 0 then (if t208 = t197 then (if t212 = t214 then (if t216 = t218 then (if t223 = t224 then (some ((t205 == 0) == (t224 == 0))) else (none)) else (none)) else (none)) else (none)) else (none)) else (none))))) else (none)) = some r := H
                      have A39 := Aside0.mk A390
                      clear A390
                      by_cases c40 : t222 = 1
                      · rw [if_pos c40] at H
                        have c40b0 : (t222 == 1) = true := beq_iff_eq.mpr c40
                        have c40b1 : (t222 != 1) = false := bne_eq_false_iff_eq.mpr c40
                        clear c40
                        replace H := Option.bind_eq_some_iff.mp H
                        obtain ⟨t223, A410, H⟩ := H
                        replace H : ((group_Add.f a1 0).bind fun t224 => (if t197 = 0 then (none) else (if t196 = true then (if t202 = 0 then (if t208 = t197 then (if t212 = t214 then (if t216 = t218 then (if t223 = t224 then (some ((t205 == 0) == (t224 == 0))) else (none)) else (none)) else (none)) else (none)) else (none)) else (none)))) = some r := H
                        have A41 := Aside0.mk A410
                        clear A410
                        replace H := Option.bind_eq_some_iff.mp H
                        obtain ⟨t224, A420, H⟩ := H
                        replace H : (if t197 = 0 then (none) else (if t196 = true then (if t202 = 0 then (if t208 = t197 then (if t212 = t214 then (if t216 = t218 then (if t223 = t224 then (some ((t205 == 0) == (t224 == 0))) else (none)) else (none)) else (none)) else (none)) else (none)) else (none))) = some r := H
                        have A42 := Aside0.mk A420
                        clear A420
                        by_cases c43 : t197 = 0
                        · rw [if_pos c43] at H
                          exact absurd H (by simp)
                        · rw [if_neg c43] at H
                          have c43b0 : (t197 == 0) = false := beq_eq_false_iff_ne.mpr c43
                          have c43b1 : (t197 != 0) = true := bne_iff_ne.mpr c43
                          by_cases c44 : t196 = true
                          · subst c44
                            have H1 : (if t202 = 0 then (if t208 = t197 then (if t212 = t214 then (if t216 = t218 then (if t223 = t224 then (some ((t205 == 0) == (t224 == 0))) else (none)) else (none)) else (none)) else (none)) else (none)) = some r := by rw [if_pos rfl] at H; exact H
                            clear H
                            have H := H1
                            clear H1
                            by_cases c45 : t202 = 0
                            · rw [if_pos c45] at H
                              have c45b0 : (t202 == 0) = true := beq_iff_eq.mpr c45
                              have c45b1 : (t202 != 0) = false := bne_eq_false_iff_eq.mpr c45
                              clear c45
                              by_cases c46 : t208 = t197
                              · rw [if_pos c46] at H
                                have c46b0 : (t208 == t197) = true := beq_iff_eq.mpr c46
                                have c46b1 : (t208 != t197) = false := bne_eq_false_iff_eq.mpr c46
                                clear c46
                                by_cases c47 : t212 = t214
                                · rw [if_pos c47] at H
                                  have c47b0 : (t212 == t214) = true := beq_iff_eq.mpr c47
                                  have c47b1 : (t212 != t214) = false := bne_eq_false_iff_eq.mpr c47
                                  clear c47
                                  by_cases c48 : t216 = t218
                                  · rw [if_pos c48] at H
                                    have c48b0 : (t216 == t218) = true := beq_iff_eq.mpr c48
                                    have c48b1 : (t216 != t218) = false := bne_eq_false_iff_eq.mpr c48
                                    clear c48
                                    by_cases c49 : t223 = t224
                                    · rw [if_pos c49] at H
                                      have c49b0 : (t223 == t224) = true := beq_iff_eq.mpr c49
                                      have c49b1 : (t223 != t224) = false := bne_eq_false_iff_eq.mpr c49
                                      clear c49
                                      obtain rfl := Option.some.inj H
                                      go_enter Try.func4, Try.ntmps4
                                      go_wp2_with (first | ((with_reducible refine gate_callee (f := 8) rfl ?_); refine goesL_ (some 17) rfl rfl Try.func8 (by kernel_rfl) rfl #[] rfl (by (try simp only [List.map_toArray, List.map_cons, List.map_nil]); first | done | rfl | (simp only [List.length_drop, List.length_take]; rfl)) ?_; (with_reducible refine (agoralaw04_small.calls k  true _ A4.out).mono ?_); rintro e w' ⟨rfl, ⟨nd, rfl⟩⟩; refine ⟨_, rfl, ?_⟩) | ((with_reducible refine gate_callee (f := 11) rfl ?_); refine goesL_ (some 19) rfl rfl Try.func11 (by kernel_rfl) rfl #[.int .i64 a0, .int .i64 0] rfl (by (try simp only [List.map_toArray, List.map_cons, List.map_nil]); first | done | rfl | (simp only [List.length_drop, List.length_take]; rfl)) ?_; (with_reducible refine (group_Add.calls a0 0 t197 _ A5.out).mono ?_); rintro e w' ⟨rfl, ⟨nd, rfl⟩⟩; refine ⟨_, rfl, ?_⟩) | ((with_reducible refine gate_callee (f := 25) rfl ?_); refine goesL_ (some 21) rfl rfl Try.func25 (by kernel_rfl) rfl #[.int .i64 t197, .int .i64 2305843009213693951] rfl (by (try simp only [List.map_toArray, List.map_cons, List.map_nil]); first | done | rfl | (simp only [List.length_drop, List.length_take]; rfl)) ?_; (with_reducible refine (agoralaw04_in.calls t197 2305843009213693951 true _ A6.out).mono ?_); rintro e w' ⟨rfl, ⟨nd, rfl⟩⟩; refine ⟨_, rfl, ?_⟩) | (go_at_call 15; (with_reducible refine (group_Mul.calls k a0 1 t199 _ A8.out).mono ?_); rintro e w' ⟨rfl, ⟨nd, rfl⟩⟩) | (go_at_call 13; (with_reducible refine (group_Sub.calls a0 0 t200 _ A10.out).mono ?_); rintro e w' ⟨rfl, ⟨nd, rfl⟩⟩) | (go_at_call 11; (with_reducible refine (group_Add.calls t197 2305843009213693951 t201 _ A12.out).mono ?_); rintro e w' ⟨rfl, ⟨nd, rfl⟩⟩) | (go_at_call 13; (with_reducible refine (group_Sub.calls a0 a0 t202 _ A14.out).mono ?_); rintro e w' ⟨rfl, ⟨nd, rfl⟩⟩) | ((with_reducible refine gate_callee (f := 11) rfl ?_); refine goesL_ (some 48) rfl rfl Try.func11 (by kernel_rfl) rfl #[.int .i64 a0, .int .i64 a1] rfl (by (try simp only [List.map_toArray, List.map_cons, List.map_nil]); first | done | rfl | (simp only [List.length_drop, List.length_take]; rfl)) ?_; (with_reducible refine (group_Add.calls a0 a1 t203 _ A15.out).mono ?_); rintro e w' ⟨rfl, ⟨nd, rfl⟩⟩; refine ⟨_, rfl, ?_⟩) | ((with_reducible refine gate_callee (f := 11) rfl ?_); refine goesL_ (some 51) rfl rfl Try.func11 (by kernel_rfl) rfl #[.int .i64 a1, .int .i64 a0] rfl (by (try simp only [List.map_toArray, List.map_cons, List.map_nil]); first | done | rfl | (simp only [List.length_drop, List.length_take]; rfl)) ?_; (with_reducible refine (group_Add.calls a1 a0 t204 _ A16.out).mono ?_); rintro e w' ⟨rfl, ⟨nd, rfl⟩⟩; refine ⟨_, rfl, ?_⟩) | (go_at_call 15; (with_reducible refine (group_Mul.calls k a0 a1 t205 _ A18.out).mono ?_); rintro e w' ⟨rfl, ⟨nd, rfl⟩⟩) | (go_at_call 15; (with_reducible refine (group_Mul.calls k a1 a0 t206 _ A19.out).mono ?_); rintro e w' ⟨rfl, ⟨nd, rfl⟩⟩) | (go_at_call 11; (with_reducible refine (group_Add.calls a0 a1 t207 _ A21.out).mono ?_); rintro e w' ⟨rfl, ⟨nd, rfl⟩⟩) | (go_at_call 13; (with_reducible refine (group_Sub.calls t207 a1 t208 _ A22.out).mono ?_); rintro e w' ⟨rfl, ⟨nd, rfl⟩⟩) | ((with_reducible refine gate_callee (f := 11) rfl ?_); refine goesL_ (some 75) rfl rfl Try.func11 (by kernel_rfl) rfl #[.int .i64 t207, .int .i64 a2] rfl (by (try simp only [List.map_toArray, List.map_cons, List.map_nil]); first | done | rfl | (simp only [List.length_drop, List.length_take]; rfl)) ?_; (with_reducible refine (group_Add.calls t207 a2 t209 _ A23.out).mono ?_); rintro e w' ⟨rfl, ⟨nd, rfl⟩⟩; refine ⟨_, rfl, ?_⟩) | ((with_reducible refine gate_callee (f := 11) rfl ?_); refine goesL_ (some 79) rfl rfl Try.func11 (by kernel_rfl) rfl #[.int .i64 a1, .int .i64 a2] rfl (by (try simp only [List.map_toArray, List.map_cons, List.map_nil]); first | done | rfl | (simp only [List.length_drop, List.length_take]; rfl)) ?_; (with_reducible refine (group_Add.calls a1 a2 t210 _ A24.out).mono ?_); rintro e w' ⟨rfl, ⟨nd, rfl⟩⟩; refine ⟨_, rfl, ?_⟩) | ((with_reducible refine gate_callee (f := 11) rfl ?_); refine goesL_ (some 80) rfl rfl Try.func11 (by kernel_rfl) rfl #[.int .i64 a0, .int .i64 t210] rfl (by (try simp only [List.map_toArray, List.map_cons, List.map_nil]); first | done | rfl | (simp only [List.length_drop, List.length_take]; rfl)) ?_; (with_reducible refine (group_Add.calls a0 t210 t211 _ A25.out).mono ?_); rintro e w' ⟨rfl, ⟨nd, rfl⟩⟩; refine ⟨_, rfl, ?_⟩) | (go_at_call 15; (with_reducible refine (group_Mul.calls k t205 a2 t212 _ A27.out).mono ?_); rintro e w' ⟨rfl, ⟨nd, rfl⟩⟩) | (go_at_call 15; (with_reducible refine (group_Mul.calls k a1 a2 t213 _ A28.out).mono ?_); rintro e w' ⟨rfl, ⟨nd, rfl⟩⟩) | (go_at_call 15; (with_reducible refine (group_Mul.calls k a0 t213 t214 _ A29.out).mono ?_); rintro e w' ⟨rfl, ⟨nd, rfl⟩⟩) | ((with_reducible refine gate_callee (f := 11) rfl ?_); refine goesL_ (some 98) rfl rfl Try.func11 (by kernel_rfl) rfl #[.int .i64 a1, .int .i64 a2] rfl (by (try simp only [List.map_toArray, List.map_cons, List.map_nil]); first | done | rfl | (simp only [List.length_drop, List.length_take]; rfl)) ?_; (with_reducible refine (group_Add.calls a1 a2 t215 _ A30.out).mono ?_); rintro e w' ⟨rfl, ⟨nd, rfl⟩⟩; refine ⟨_, rfl, ?_⟩) | ((with_reducible refine gate_callee (f := 15) rfl ?_); refine goesL_ (some 99) rfl rfl Try.func15 (by kernel_rfl) rfl #[.int .i64 a0, .int .i64 t215] rfl (by (try simp only [List.map_toArray, List.map_cons, List.map_nil]); first | done | rfl | (simp only [List.length_drop, List.length_take]; rfl)) ?_; (with_reducible refine (group_Mul.calls k a0 t215 t216 _ A31.out).mono ?_); rintro e w' ⟨rfl, ⟨nd, rfl⟩⟩; refine ⟨_, rfl, ?_⟩) | ((with_reducible refine gate_callee (f := 15) rfl ?_); refine goesL_ (some 105) rfl rfl Try.func15 (by kernel_rfl) rfl #[.int .i64 a0, .int .i64 a2] rfl (by (try simp only [List.map_toArray, List.map_cons, List.map_nil]); first | done | rfl | (simp only [List.length_drop, List.length_take]; rfl)) ?_; (with_reducible refine (group_Mul.calls k a0 a2 t217 _ A32.out).mono ?_); rintro e w' ⟨rfl, ⟨nd, rfl⟩⟩; refine ⟨_, rfl, ?_⟩) | ((with_reducible refine gate_callee (f := 11) rfl ?_); refine goesL_ (some 106) rfl rfl Try.func11 (by kernel_rfl) rfl #[.int .i64 t205, .int .i64 t217] rfl (by (try simp only [List.map_toArray, List.map_cons, List.map_nil]); first | done | rfl | (simp only [List.length_drop, List.length_take]; rfl)) ?_; (with_reducible refine (group_Add.calls t205 t217 t218 _ A33.out).mono ?_); rintro e w' ⟨rfl, ⟨nd, rfl⟩⟩; refine ⟨_, rfl, ?_⟩) | ((with_reducible refine gate_callee (f := 9) rfl ?_); refine goesL_ (some 110) rfl rfl Try.func9 (by kernel_rfl) rfl #[.int .i64 a0] rfl (by (try simp only [List.map_toArray, List.map_cons, List.map_nil]); first | done | rfl | (simp only [List.length_drop, List.length_take]; rfl)) ?_; (with_reducible refine (group_Inv.calls k a0 t219 true _ A34.out).mono ?_); rintro e w' ⟨rfl, ⟨nd, rfl⟩⟩; refine ⟨_, rfl, ?_⟩) | (go_at_call 25; (with_reducible refine (agoralaw04_in.calls t219 2305843009213693951 true _ A37.out).mono ?_); rintro e w' ⟨rfl, ⟨nd, rfl⟩⟩) | (go_at_call 15; (with_reducible refine (group_Mul.calls k a0 t219 t222 _ A39.out).mono ?_); rintro e w' ⟨rfl, ⟨nd, rfl⟩⟩) | (go_at_call 15; (with_reducible refine (group_Mul.calls k t206 t219 t223 _ A41.out).mono ?_); rintro e w' ⟨rfl, ⟨nd, rfl⟩⟩) | (go_at_call 11; (with_reducible refine (group_Add.calls a1 0 t224 _ A42.out).mono ?_); rintro e w' ⟨rfl, ⟨nd, rfl⟩⟩))
                                      go_ret
                                      exact ⟨by first | rfl | (simp; done) | (simp [*]; done), by repeat (first | exact Drawn0.refl _ | apply Drawn0.step)⟩
                                    · rw [if_neg c49] at H
                                      exact absurd H (by simp)
                                  · rw [if_neg c48] at H
                                    exact absurd H (by simp)
                                · rw [if_neg c47] at H
                                  exact absurd H (by simp)
                              · rw [if_neg c46] at H
                                exact absurd H (by simp)
                            · rw [if_neg c45] at H
                              exact absurd H (by simp)
                          · replace c44 := Bool.eq_false_iff.mpr c44
                            subst c44
                            have H1 : (none) = some r := by rw [if_neg (show ¬ (false = true) by decide)] at H; exact H
                            clear H
                            have H := H1
                            clear H1
                            exact absurd H (by simp)
                      · rw [if_neg c40] at H
                        exact absurd H (by simp)
                    · replace c38 := Bool.eq_false_iff.mpr c38
                      subst c38
                      have H1 : (none) = some r := by rw [if_neg (show ¬ (false = true) by decide)] at H; exact H
                      clear H
                      have H := H1
                      clear H1
                      exact absurd H (by simp)
                  · replace c36 := Bool.eq_false_iff.mpr c36
                    subst c36
                    have H1 : (if t197 = 0 then (if t196 = true then (if t202 = 0 then (if t208 = t197 then (if t212 = t214 then (if t216 = t218 then (some ((t205 == 0) == true)) else (none)) else (none)) else (none)) else (none)) else (none)) else (none)) = some r := by rw [if_neg (show ¬ (false = true) by decide)] at H; exact H
                    clear H
                    have H := H1
                    clear H1
                    by_cases c50 : t197 = 0
                    · rw [if_pos c50] at H
                      have c50b0 : (t197 == 0) = true := beq_iff_eq.mpr c50
                      have c50b1 : (t197 != 0) = false := bne_eq_false_iff_eq.mpr c50
                      clear c50
                      by_cases c51 : t196 = true
                      · subst c51
                        have H1 : (if t202 = 0 then (if t208 = t197 then (if t212 = t214 then (if t216 = t218 then (some ((t205 == 0) == true)) else (none)) else (none)) else (none)) else (none)) = some r := by rw [if_pos rfl] at H; exact H
                        clear H
                        have H := H1
                        clear H1
                        by_cases c52 : t202 = 0
                        · rw [if_pos c52] at H
                          have c52b0 : (t202 == 0) = true := beq_iff_eq.mpr c52
                          have c52b1 : (t202 != 0) = false := bne_eq_false_iff_eq.mpr c52
                          clear c52
                          by_cases c53 : t208 = t197
                          · rw [if_pos c53] at H
                            have c53b0 : (t208 == t197) = true := beq_iff_eq.mpr c53
                            have c53b1 : (t208 != t197) = false := bne_eq_false_iff_eq.mpr c53
                            clear c53
                            by_cases c54 : t212 = t214
                            · rw [if_pos c54] at H
                              have c54b0 : (t212 == t214) = true := beq_iff_eq.mpr c54
                              have c54b1 : (t212 != t214) = false := bne_eq_false_iff_eq.mpr c54
                              clear c54
                              by_cases c55 : t216 = t218
                              · rw [if_pos c55] at H
                                have c55b0 : (t216 == t218) = true := beq_iff_eq.mpr c55
                                have c55b1 : (t216 != t218) = false := bne_eq_false_iff_eq.mpr c55
                                clear c55
                                obtain rfl := Option.some.inj H
                                go_enter Try.func4, Try.ntmps4
                                go_wp2_with (first | ((with_reducible refine gate_callee (f := 8) rfl ?_); refine goesL_ (some 17) rfl rfl Try.func8 (by kernel_rfl) rfl #[] rfl (by (try simp only [List.map_toArray, List.map_cons, List.map_nil]); first | done | rfl | (simp only [List.length_drop, List.length_take]; rfl)) ?_; (with_reducible refine (agoralaw04_small.calls k  true _ A4.out).mono ?_); rintro e w' ⟨rfl, ⟨nd, rfl⟩⟩; refine ⟨_, rfl, ?_⟩) | ((with_reducible refine gate_callee (f := 11) rfl ?_); refine goesL_ (some 19) rfl rfl Try.func11 (by kernel_rfl) rfl #[.int .i64 a0, .int .i64 0] rfl (by (try simp only [List.map_toArray, List.map_cons, List.map_nil]); first | done | rfl | (simp only [List.length_drop, List.length_take]; rfl)) ?_; (with_reducible refine (group_Add.calls a0 0 t197 _ A5.out).mono ?_); rintro e w' ⟨rfl, ⟨nd, rfl⟩⟩; refine ⟨_, rfl, ?_⟩) | ((with_reducible refine gate_callee (f := 25) rfl ?_); refine goesL_ (some 21) rfl rfl Try.func25 (by kernel_rfl) rfl #[.int .i64 t197, .int .i64 2305843009213693951] rfl (by (try simp only [List.map_toArray, List.map_cons, List.map_nil]); first | done | rfl | (simp only [List.length_drop, List.length_take]; rfl)) ?_; (with_reducible refine (agoralaw04_in.calls t197 2305843009213693951 true _ A6.out).mono ?_); rintro e w' ⟨rfl, ⟨nd, rfl⟩⟩; refine ⟨_, rfl, ?_⟩) | (go_at_call 15; (with_reducible refine (group_Mul.calls k a0 1 t199 _ A8.out).mono ?_); rintro e w' ⟨rfl, ⟨nd, rfl⟩⟩) | (go_at_call 13; (with_reducible refine (group_Sub.calls a0 0 t200 _ A10.out).mono ?_); rintro e w' ⟨rfl, ⟨nd, rfl⟩⟩) | (go_at_call 11; (with_reducible refine (group_Add.calls t197 2305843009213693951 t201 _ A12.out).mono ?_); rintro e w' ⟨rfl, ⟨nd, rfl⟩⟩) | (go_at_call 13; (with_reducible refine (group_Sub.calls a0 a0 t202 _ A14.out).mono ?_); rintro e w' ⟨rfl, ⟨nd, rfl⟩⟩) | ((with_reducible refine gate_callee (f := 11) rfl ?_); refine goesL_ (some 48) rfl rfl Try.func11 (by kernel_rfl) rfl #[.int .i64 a0, .int .i64 a1] rfl (by (try simp only [List.map_toArray, List.map_cons, List.map_nil]); first | done | rfl | (simp only [List.length_drop, List.length_take]; rfl)) ?_; (with_reducible refine (group_Add.calls a0 a1 t203 _ A15.out).mono ?_); rintro e w' ⟨rfl, ⟨nd, rfl⟩⟩; refine ⟨_, rfl, ?_⟩) | ((with_reducible refine gate_callee (f := 11) rfl ?_); refine goesL_ (some 51) rfl rfl Try.func11 (by kernel_rfl) rfl #[.int .i64 a1, .int .i64 a0] rfl (by (try simp only [List.map_toArray, List.map_cons, List.map_nil]); first | done | rfl | (simp only [List.length_drop, List.length_take]; rfl)) ?_; (with_reducible refine (group_Add.calls a1 a0 t204 _ A16.out).mono ?_); rintro e w' ⟨rfl, ⟨nd, rfl⟩⟩; refine ⟨_, rfl, ?_⟩) | (go_at_call 15; (with_reducible refine (group_Mul.calls k a0 a1 t205 _ A18.out).mono ?_); rintro e w' ⟨rfl, ⟨nd, rfl⟩⟩) | (go_at_call 15; (with_reducible refine (group_Mul.calls k a1 a0 t206 _ A19.out).mono ?_); rintro e w' ⟨rfl, ⟨nd, rfl⟩⟩) | (go_at_call 11; (with_reducible refine (group_Add.calls a0 a1 t207 _ A21.out).mono ?_); rintro e w' ⟨rfl, ⟨nd, rfl⟩⟩) | (go_at_call 13; (with_reducible refine (group_Sub.calls t207 a1 t208 _ A22.out).mono ?_); rintro e w' ⟨rfl, ⟨nd, rfl⟩⟩) | ((with_reducible refine gate_callee (f := 11) rfl ?_); refine goesL_ (some 75) rfl rfl Try.func11 (by kernel_rfl) rfl #[.int .i64 t207, .int .i64 a2] rfl (by (try simp only [List.map_toArray, List.map_cons, List.map_nil]); first | done | rfl | (simp only [List.length_drop, List.length_take]; rfl)) ?_; (with_reducible refine (group_Add.calls t207 a2 t209 _ A23.out).mono ?_); rintro e w' ⟨rfl, ⟨nd, rfl⟩⟩; refine ⟨_, rfl, ?_⟩) | ((with_reducible refine gate_callee (f := 11) rfl ?_); refine goesL_ (some 79) rfl rfl Try.func11 (by kernel_rfl) rfl #[.int .i64 a1, .int .i64 a2] rfl (by (try simp only [List.map_toArray, List.map_cons, List.map_nil]); first | done | rfl | (simp only [List.length_drop, List.length_take]; rfl)) ?_; (with_reducible refine (group_Add.calls a1 a2 t210 _ A24.out).mono ?_); rintro e w' ⟨rfl, ⟨nd, rfl⟩⟩; refine ⟨_, rfl, ?_⟩) | ((with_reducible refine gate_callee (f := 11) rfl ?_); refine goesL_ (some 80) rfl rfl Try.func11 (by kernel_rfl) rfl #[.int .i64 a0, .int .i64 t210] rfl (by (try simp only [List.map_toArray, List.map_cons, List.map_nil]); first | done | rfl | (simp only [List.length_drop, List.length_take]; rfl)) ?_; (with_reducible refine (group_Add.calls a0 t210 t211 _ A25.out).mono ?_); rintro e w' ⟨rfl, ⟨nd, rfl⟩⟩; refine ⟨_, rfl, ?_⟩) | (go_at_call 15; (with_reducible refine (group_Mul.calls k t205 a2 t212 _ A27.out).mono ?_); rintro e w' ⟨rfl, ⟨nd, rfl⟩⟩) | (go_at_call 15; (with_reducible refine (group_Mul.calls k a1 a2 t213 _ A28.out).mono ?_); rintro e w' ⟨rfl, ⟨nd, rfl⟩⟩) | (go_at_call 15; (with_reducible refine (group_Mul.calls k a0 t213 t214 _ A29.out).mono ?_); rintro e w' ⟨rfl, ⟨nd, rfl⟩⟩) | ((with_reducible refine gate_callee (f := 11) rfl ?_); refine goesL_ (some 98) rfl rfl Try.func11 (by kernel_rfl) rfl #[.int .i64 a1, .int .i64 a2] rfl (by (try simp only [List.map_toArray, List.map_cons, List.map_nil]); first | done | rfl | (simp only [List.length_drop, List.length_take]; rfl)) ?_; (with_reducible refine (group_Add.calls a1 a2 t215 _ A30.out).mono ?_); rintro e w' ⟨rfl, ⟨nd, rfl⟩⟩; refine ⟨_, rfl, ?_⟩) | ((with_reducible refine gate_callee (f := 15) rfl ?_); refine goesL_ (some 99) rfl rfl Try.func15 (by kernel_rfl) rfl #[.int .i64 a0, .int .i64 t215] rfl (by (try simp only [List.map_toArray, List.map_cons, List.map_nil]); first | done | rfl | (simp only [List.length_drop, List.length_take]; rfl)) ?_; (with_reducible refine (group_Mul.calls k a0 t215 t216 _ A31.out).mono ?_); rintro e w' ⟨rfl, ⟨nd, rfl⟩⟩; refine ⟨_, rfl, ?_⟩) | ((with_reducible refine gate_callee (f := 15) rfl ?_); refine goesL_ (some 105) rfl rfl Try.func15 (by kernel_rfl) rfl #[.int .i64 a0, .int .i64 a2] rfl (by (try simp only [List.map_toArray, List.map_cons, List.map_nil]); first | done | rfl | (simp only [List.length_drop, List.length_take]; rfl)) ?_; (with_reducible refine (group_Mul.calls k a0 a2 t217 _ A32.out).mono ?_); rintro e w' ⟨rfl, ⟨nd, rfl⟩⟩; refine ⟨_, rfl, ?_⟩) | ((with_reducible refine gate_callee (f := 11) rfl ?_); refine goesL_ (some 106) rfl rfl Try.func11 (by kernel_rfl) rfl #[.int .i64 t205, .int .i64 t217] rfl (by (try simp only [List.map_toArray, List.map_cons, List.map_nil]); first | done | rfl | (simp only [List.length_drop, List.length_take]; rfl)) ?_; (with_reducible refine (group_Add.calls t205 t217 t218 _ A33.out).mono ?_); rintro e w' ⟨rfl, ⟨nd, rfl⟩⟩; refine ⟨_, rfl, ?_⟩) | ((with_reducible refine gate_callee (f := 9) rfl ?_); refine goesL_ (some 110) rfl rfl Try.func9 (by kernel_rfl) rfl #[.int .i64 a0] rfl (by (try simp only [List.map_toArray, List.map_cons, List.map_nil]); first | done | rfl | (simp only [List.length_drop, List.length_take]; rfl)) ?_; (with_reducible refine (group_Inv.calls k a0 t219 false _ A34.out).mono ?_); rintro e w' ⟨rfl, ⟨nd, rfl⟩⟩; refine ⟨_, rfl, ?_⟩))
                                go_ret
                                exact ⟨by first | rfl | (simp; done) | (simp [*]; done), by repeat (first | exact Drawn0.refl _ | apply Drawn0.step)⟩
                              · rw [if_neg c55] at H
                                exact absurd H (by simp)
                            · rw [if_neg c54] at H
                              exact absurd H (by simp)
                          · rw [if_neg c53] at H
                            exact absurd H (by simp)
                        · rw [if_neg c52] at H
                          exact absurd H (by simp)
                      · replace c51 := Bool.eq_false_iff.mpr c51
                        subst c51
                        have H1 : (none) = some r := by rw [if_neg (show ¬ (false = true) by decide)] at H; exact H
                        clear H
                        have H := H1
                        clear H1
                        exact absurd H (by simp)
                    · rw [if_neg c50] at H
                      exact absurd H (by simp)
                · rw [if_neg c35] at H
                  exact absurd H (by simp)
              · rw [if_neg c26] at H
                exact absurd H (by simp)
            · rw [if_neg c20] at H
              exact absurd H (by simp)
          · rw [if_neg c17] at H
            exact absurd H (by simp)
        · rw [if_neg c13] at H
          exact absurd H (by simp)
      · rw [if_neg c11] at H
        exact absurd H (by simp)
    · rw [if_neg c9] at H
      exact absurd H (by simp)
  · replace c7 := Bool.eq_false_iff.mpr c7
    subst c7
    have H1 : (none) = some r := by rw [if_neg (show ¬ (false = true) by decide)] at H; exact H
    clear H
    have H := H1
    clear H1
    exact absurd H (by simp)

/-- THE ONE PURE STATEMENT of agoralaw04_GroupField: yours. -/
def agoralaw04_GroupField.Pure : Prop := ∀ (a0 : Int) (a1 : Int) (a2 : Int), (Lit.int .i64 a0).wf = true → (Lit.int .i64 a1).wf = true → (Lit.int .i64 a2).wf = true → ∃ k, agoralaw04_GroupField.f k a0 a1 a2 = some true
theorem agoralaw04_GroupField.walk (P : agoralaw04_GroupField.Pure) (a0 : Int) (a1 : Int) (a2 : Int) (w : World) (w0 : (Lit.int .i64 a0).wf = true) (w1 : (Lit.int .i64 a1).wf = true) (w2 : (Lit.int .i64 a2).wf = true) :
    Calls Try.prog 4 #[.int .i64 a0, .int .i64 a1, .int .i64 a2] w fun e w' => e = .returned (.bool true) ∧ Below w.heap.size w w' := by
  obtain ⟨k, h⟩ := P a0 a1 a2 w0 w1 w2
  refine (agoralaw04_GroupField.calls k a0 a1 a2 true w h).mono ?_
  rintro e w' ⟨rfl, hd⟩
  exact ⟨rfl, hd.below⟩

/-! ### agoralaw04_GroupPowers: function 5 -/
mutual
def agoralaw04_GroupPowers.j0 : Nat → Int → Int → Int → Int → Bool → Bool → Option (Bool)
  | 0, _, _, _, _, _, _ => none
  | k + 1, x0, x1, x2, x3, x9, x34 => if x34 = true then (none) else ((group_Add.f x0 0).bind fun t231 => (if t231 = 0 then (agoralaw04_GroupPowers.j1 k x0 x1 x2 x3 x9 true) else ((group_Add.f x1 0).bind fun t232 => (agoralaw04_GroupPowers.j1 k x0 x1 x2 x3 x9 (t232 == 0)))))
def agoralaw04_GroupPowers.j1 : Nat → Int → Int → Int → Int → Bool → Bool → Option (Bool)
  | 0, _, _, _, _, _, _ => none
  | k + 1, x0, x1, x2, x3, x9, x42 => if x42 = true then (some x9) else ((group_Exp.f k x0 x2).bind fun t233 => ((group_Exp.f k x0 x3).bind fun t234 => ((group_Mul.f k t233 t234).bind fun t235 => ((group_AddN.f x2 x3).bind fun t236 => ((group_Exp.f k x0 t236).bind fun t237 => ((group_Exp.f k x0 x2).bind fun t238 => ((group_Exp.f k t238 x3).bind fun t239 => ((group_MulN.f k x2 x3).bind fun t240 => ((group_Exp.f k x0 t240).bind fun t241 => ((group_Exp.f k x0 x2).bind fun t242 => ((group_Exp.f k x1 x2).bind fun t243 => ((group_Mul.f k t242 t243).bind fun t244 => ((group_Mul.f k x0 x1).bind fun t245 => ((group_Exp.f k t245 x2).bind fun t246 => ((group_Exp.f k x0 x2).bind fun t247 => ((group_Inv.f k t247).bind fun bt248 => (if bt248.2 = true then ((group_SubN.f 0 x2).bind fun t250 => ((group_Exp.f k x0 t250).bind fun t251 => (if bt248.1 = t251 then ((group_Exp.f k x0 x2).bind fun t252 => ((group_AddN.f x2 0).bind fun t253 => ((group_Exp.f k x0 t253).bind fun t254 => (if x9 = true then (if t235 = t237 then (if t239 = t241 then (if t244 = t246 then (some (t252 == t254)) else (none)) else (none)) else (none)) else (none))))) else (none)))) else (none))))))))))))))))))
end
def agoralaw04_GroupPowers.f (k : Nat) (a0 : Int) (a1 : Int) (a2 : Int) (a3 : Int) : Option (Bool) := (agoralaw04_small.f k).bind fun t225 => ((group_Exp.f k a0 0).bind fun t226 => (if t226 = 1 then ((group_Exp.f k a0 1).bind fun t227 => ((group_Add.f a0 0).bind fun t228 => (if t227 = t228 then ((group_Exp.f k a0 2).bind fun t229 => ((group_Mul.f k a0 a0).bind fun t230 => (agoralaw04_GroupPowers.j0 k a0 a1 a2 a3 t225 (t229 != t230)))) else (agoralaw04_GroupPowers.j0 k a0 a1 a2 a3 t225 true)))) else (agoralaw04_GroupPowers.j0 k a0 a1 a2 a3 t225 true)))
theorem agoralaw04_GroupPowers.mono_l : ∀ k, (∀ y0 y1 y2 y3 y4 y5, LeO (agoralaw04_GroupPowers.j0 k y0 y1 y2 y3 y4 y5) (agoralaw04_GroupPowers.j0 (k + 1) y0 y1 y2 y3 y4 y5)) ∧ (∀ y0 y1 y2 y3 y4 y5, LeO (agoralaw04_GroupPowers.j1 k y0 y1 y2 y3 y4 y5) (agoralaw04_GroupPowers.j1 (k + 1) y0 y1 y2 y3 y4 y5))
  | 0 => ⟨fun _ _ _ _ _ _ r h => by simp [agoralaw04_GroupPowers.j0] at h, fun _ _ _ _ _ _ r h => by simp [agoralaw04_GroupPowers.j1] at h⟩
  | k + 1 => by
    obtain ⟨ih0, ih1⟩ := agoralaw04_GroupPowers.mono_l k
    refine ⟨?_, ?_⟩
    · intro y0 y1 y2 y3 y4 y5
      unfold agoralaw04_GroupPowers.j0
      repeat' first
      | (with_reducible exact ih0 _ _ _ _ _ _)
      | (with_reducible exact ih1 _ _ _ _ _ _)
      | (with_reducible exact agoralaw04_small.mono _)
      | (with_reducible exact group_Exp.mono _ _ _)
      | (with_reducible exact group_Inv.mono _ _)
      | (with_reducible exact group_Mul.mono _ _ _)
      | (with_reducible exact group_MulN.mono _ _ _)
      | (with_reducible exact LeO.refl _)
      | (with_reducible exact LeO.none _)
      | (with_reducible refine LeO.ite ?_ ?_)
      | (with_reducible refine LeO.bind ?_ (fun _ => ?_))
      | exact ih0 _ _ _ _ _ _
      | exact ih1 _ _ _ _ _ _
      | exact agoralaw04_small.mono _
      | exact group_Exp.mono _ _ _
      | exact group_Inv.mono _ _
      | exact group_Mul.mono _ _ _
      | exact group_MulN.mono _ _ _
      | exact LeO.none _
      | refine LeO.ite ?_ ?_
      | refine LeO.bind ?_ (fun _ => ?_)
    · intro y0 y1 y2 y3 y4 y5
      unfold agoralaw04_GroupPowers.j1
      repeat' first
      | (with_reducible exact ih0 _ _ _ _ _ _)
      | (with_reducible exact ih1 _ _ _ _ _ _)
      | (with_reducible exact agoralaw04_small.mono _)
      | (with_reducible exact group_Exp.mono _ _ _)
      | (with_reducible exact group_Inv.mono _ _)
      | (with_reducible exact group_Mul.mono _ _ _)
      | (with_reducible exact group_MulN.mono _ _ _)
      | (with_reducible exact LeO.refl _)
      | (with_reducible exact LeO.none _)
      | (with_reducible refine LeO.ite ?_ ?_)
      | (with_reducible refine LeO.bind ?_ (fun _ => ?_))
      | exact ih0 _ _ _ _ _ _
      | exact ih1 _ _ _ _ _ _
      | exact agoralaw04_small.mono _
      | exact group_Exp.mono _ _ _
      | exact group_Inv.mono _ _
      | exact group_Mul.mono _ _ _
      | exact group_MulN.mono _ _ _
      | exact LeO.none _
      | refine LeO.ite ?_ ?_
      | refine LeO.bind ?_ (fun _ => ?_)
theorem agoralaw04_GroupPowers.mono : ∀ a0 a1 a2 a3 k, LeO (agoralaw04_GroupPowers.f k a0 a1 a2 a3) (agoralaw04_GroupPowers.f (k + 1) a0 a1 a2 a3) := by
  intro a0 a1 a2 a3 k
  obtain ⟨ih0, ih1⟩ := agoralaw04_GroupPowers.mono_l k
  unfold agoralaw04_GroupPowers.f
  repeat' first
      | (with_reducible exact ih0 _ _ _ _ _ _)
      | (with_reducible exact ih1 _ _ _ _ _ _)
      | (with_reducible exact agoralaw04_small.mono _)
      | (with_reducible exact group_Exp.mono _ _ _)
      | (with_reducible exact group_Inv.mono _ _)
      | (with_reducible exact group_Mul.mono _ _ _)
      | (with_reducible exact group_MulN.mono _ _ _)
      | (with_reducible exact LeO.refl _)
      | (with_reducible exact LeO.none _)
      | (with_reducible refine LeO.ite ?_ ?_)
      | (with_reducible refine LeO.bind ?_ (fun _ => ?_))
      | exact ih0 _ _ _ _ _ _
      | exact ih1 _ _ _ _ _ _
      | exact agoralaw04_small.mono _
      | exact group_Exp.mono _ _ _
      | exact group_Inv.mono _ _
      | exact group_Mul.mono _ _ _
      | exact group_MulN.mono _ _ _
      | exact LeO.none _
      | refine LeO.ite ?_ ?_
      | refine LeO.bind ?_ (fun _ => ?_)
set_option maxHeartbeats 8000000 in
set_option maxRecDepth 100000 in
theorem agoralaw04_GroupPowers.calls (k : Nat) (a0 : Int) (a1 : Int) (a2 : Int) (a3 : Int) (r : Bool) (w : World) (h : agoralaw04_GroupPowers.f k a0 a1 a2 a3 = some r) :
    Calls Try.prog 5 #[.int .i64 a0, .int .i64 a1, .int .i64 a2, .int .i64 a3] w fun e w' => e = .returned (.bool r) ∧ Drawn0 w w' := by
  have H : ((agoralaw04_small.f k).bind fun t225 => ((group_Exp.f k a0 0).bind fun t226 => (if t226 = 1 then ((group_Exp.f k a0 1).bind fun t227 => ((group_Add.f a0 0).bind fun t228 => (if t227 = t228 then ((group_Exp.f k a0 2).bind fun t229 => ((group_Mul.f k a0 a0).bind fun t230 => (agoralaw04_GroupPowers.j0 k a0 a1 a2 a3 t225 (t229 != t230)))) else (agoralaw04_GroupPowers.j0 k a0 a1 a2 a3 t225 true)))) else (agoralaw04_GroupPowers.j0 k a0 a1 a2 a3 t225 true)))) = some r := h
  clear h
  replace H := Option.bind_eq_some_iff.mp H
  obtain ⟨t225, A50, H⟩ := H
  replace H : ((group_Exp.f k a0 0).bind fun t226 => (if t226 = 1 then ((group_Exp.f k a0 1).bind fun t227 => ((group_Add.f a0 0).bind fun t228 => (if t227 = t228 then ((group_Exp.f k a0 2).bind fun t229 => ((group_Mul.f k a0 a0).bind fun t230 => (agoralaw04_GroupPowers.j0 k a0 a1 a2 a3 t225 (t229 != t230)))) else (agoralaw04_GroupPowers.j0 k a0 a1 a2 a3 t225 true)))) else (agoralaw04_GroupPowers.j0 k a0 a1 a2 a3 t225 true))) = some r := H
  have A5 := Aside0.mk A50
  clear A50
  have HC6 := Aside0.mk H
  clear H
  go_enter Try.func5, Try.ntmps5
  go_upto_region 2 with (first | ((with_reducible refine gate_callee (f := 8) rfl ?_); refine goesL_ (some 16) rfl rfl Try.func8 (by kernel_rfl) rfl #[] rfl (by (try simp only [List.map_toArray, List.map_cons, List.map_nil]); first | done | rfl | (simp only [List.length_drop, List.length_take]; rfl)) ?_; (with_reducible refine (agoralaw04_small.calls k  t225 _ A5.out).mono ?_); rintro e w' ⟨rfl, ⟨nd, rfl⟩⟩; refine ⟨_, rfl, ?_⟩))
  (try simp only [Act.put, List.setIfInBounds_toArray, List.set_cons_zero, List.set_cons_succ])
  go_cut [34] (fun v34 wc => ∃ (kq : Nat) (x34_5 : Bool), v34 = .bool x34_5 ∧ Aside0 (agoralaw04_GroupPowers.j0 kq a0 a1 a2 a3 t225 x34_5 = some r) ∧ Aside0 (kq ≤ k) ∧ Drawn0 w wc)
  case first =>
    have H := HC6.out
    clear HC6
    replace H := Option.bind_eq_some_iff.mp H
    obtain ⟨t226, A70, H⟩ := H
    replace H : (if t226 = 1 then ((group_Exp.f k a0 1).bind fun t227 => ((group_Add.f a0 0).bind fun t228 => (if t227 = t228 then ((group_Exp.f k a0 2).bind fun t229 => ((group_Mul.f k a0 a0).bind fun t230 => (agoralaw04_GroupPowers.j0 k a0 a1 a2 a3 t225 (t229 != t230)))) else (agoralaw04_GroupPowers.j0 k a0 a1 a2 a3 t225 true)))) else (agoralaw04_GroupPowers.j0 k a0 a1 a2 a3 t225 true)) = some r := H
    have A7 := Aside0.mk A70
    clear A70
    by_cases c8 : t226 = 1
    · rw [if_pos c8] at H
      have c8b0 : (t226 == 1) = true := beq_iff_eq.mpr c8
      have c8b1 : (t226 != 1) = false := bne_eq_false_iff_eq.mpr c8
      clear c8
      (first | rw [c8b0] | (simp only [i64_w, i32_w]; rw [c8b0]) | skip)
      replace H := Option.bind_eq_some_iff.mp H
      obtain ⟨t227, A90, H⟩ := H
      replace H : ((group_Add.f a0 0).bind fun t228 => (if t227 = t228 then ((group_Exp.f k a0 2).bind fun t229 => ((group_Mul.f k a0 a0).bind fun t230 => (agoralaw04_GroupPowers.j0 k a0 a1 a2 a3 t225 (t229 != t230)))) else (agoralaw04_GroupPowers.j0 k a0 a1 a2 a3 t225 true))) = some r := H
      have A9 := Aside0.mk A90
      clear A90
      replace H := Option.bind_eq_some_iff.mp H
      obtain ⟨t228, A100, H⟩ := H
      replace H : (if t227 = t228 then ((group_Exp.f k a0 2).bind fun t229 => ((group_Mul.f k a0 a0).bind fun t230 => (agoralaw04_GroupPowers.j0 k a0 a1 a2 a3 t225 (t229 != t230)))) else (agoralaw04_GroupPowers.j0 k a0 a1 a2 a3 t225 true)) = some r := H
      have A10 := Aside0.mk A100
      clear A100
      by_cases c11 : t227 = t228
      · rw [if_pos c11] at H
        have c11b0 : (t227 == t228) = true := beq_iff_eq.mpr c11
        have c11b1 : (t227 != t228) = false := bne_eq_false_iff_eq.mpr c11
        clear c11
        replace H := Option.bind_eq_some_iff.mp H
        obtain ⟨t229, A120, H⟩ := H
        replace H : ((group_Mul.f k a0 a0).bind fun t230 => (agoralaw04_GroupPowers.j0 k a0 a1 a2 a3 t225 (t229 != t230))) = some r := H
        have A12 := Aside0.mk A120
        clear A120
        replace H := Option.bind_eq_some_iff.mp H
        obtain ⟨t230, A130, H⟩ := H
        replace H : (agoralaw04_GroupPowers.j0 k a0 a1 a2 a3 t225 (t229 != t230)) = some r := H
        have A13 := Aside0.mk A130
        clear A130
        have H' := Aside0.mk H
        clear H
        go_wp2_with (first | ((with_reducible refine gate_callee (f := 17) rfl ?_); refine goesL_ (some 18) rfl rfl Try.func17 (by kernel_rfl) rfl #[.int .i64 a0, .int .i64 0] rfl (by (try simp only [List.map_toArray, List.map_cons, List.map_nil]); first | done | rfl | (simp only [List.length_drop, List.length_take]; rfl)) ?_; (with_reducible refine (group_Exp.calls k a0 0 t226 _ A7.out).mono ?_); rintro e w' ⟨rfl, ⟨nd, rfl⟩⟩; refine ⟨_, rfl, ?_⟩) | (go_at_call 17; (with_reducible refine (group_Exp.calls k a0 1 t227 _ A9.out).mono ?_); rintro e w' ⟨rfl, ⟨nd, rfl⟩⟩) | (go_at_call 11; (with_reducible refine (group_Add.calls a0 0 t228 _ A10.out).mono ?_); rintro e w' ⟨rfl, ⟨nd, rfl⟩⟩) | (go_at_call 17; (with_reducible refine (group_Exp.calls k a0 2 t229 _ A12.out).mono ?_); rintro e w' ⟨rfl, ⟨nd, rfl⟩⟩) | (go_at_call 15; (with_reducible refine (group_Mul.calls k a0 a0 t230 _ A13.out).mono ?_); rintro e w' ⟨rfl, ⟨nd, rfl⟩⟩))
        go_meet
        case rel => exact ⟨_, ((t229 != t230)), (by first | rfl | (simp; done) | (simp [*]; done)), H', ⟨by first | omega | exact Nat.le_refl _⟩, by repeat (first | exact Drawn0.refl _ | apply Drawn0.step)⟩
      · rw [if_neg c11] at H
        have c11b0 : (t227 == t228) = false := beq_eq_false_iff_ne.mpr c11
        have c11b1 : (t227 != t228) = true := bne_iff_ne.mpr c11
        have H' := Aside0.mk H
        clear H
        go_wp2_with (first | ((with_reducible refine gate_callee (f := 17) rfl ?_); refine goesL_ (some 18) rfl rfl Try.func17 (by kernel_rfl) rfl #[.int .i64 a0, .int .i64 0] rfl (by (try simp only [List.map_toArray, List.map_cons, List.map_nil]); first | done | rfl | (simp only [List.length_drop, List.length_take]; rfl)) ?_; (with_reducible refine (group_Exp.calls k a0 0 t226 _ A7.out).mono ?_); rintro e w' ⟨rfl, ⟨nd, rfl⟩⟩; refine ⟨_, rfl, ?_⟩) | (go_at_call 17; (with_reducible refine (group_Exp.calls k a0 1 t227 _ A9.out).mono ?_); rintro e w' ⟨rfl, ⟨nd, rfl⟩⟩) | (go_at_call 11; (with_reducible refine (group_Add.calls a0 0 t228 _ A10.out).mono ?_); rintro e w' ⟨rfl, ⟨nd, rfl⟩⟩))
        go_meet
        case rel => exact ⟨_, (true), (by first | rfl | (simp; done) | (simp [*]; done)), H', ⟨by first | omega | exact Nat.le_refl _⟩, by repeat (first | exact Drawn0.refl _ | apply Drawn0.step)⟩
    · rw [if_neg c8] at H
      have c8b0 : (t226 == 1) = false := beq_eq_false_iff_ne.mpr c8
      have c8b1 : (t226 != 1) = true := bne_iff_ne.mpr c8
      (first | rw [c8b0] | (simp only [i64_w, i32_w]; rw [c8b0]) | skip)
      have H' := Aside0.mk H
      clear H
      go_wp2_with (first | ((with_reducible refine gate_callee (f := 17) rfl ?_); refine goesL_ (some 18) rfl rfl Try.func17 (by kernel_rfl) rfl #[.int .i64 a0, .int .i64 0] rfl (by (try simp only [List.map_toArray, List.map_cons, List.map_nil]); first | done | rfl | (simp only [List.length_drop, List.length_take]; rfl)) ?_; (with_reducible refine (group_Exp.calls k a0 0 t226 _ A7.out).mono ?_); rintro e w' ⟨rfl, ⟨nd, rfl⟩⟩; refine ⟨_, rfl, ?_⟩))
      go_meet
      case rel => exact ⟨_, (true), (by first | rfl | (simp; done) | (simp [*]; done)), H', ⟨by first | omega | exact Nat.le_refl _⟩, by repeat (first | exact Drawn0.refl _ | apply Drawn0.step)⟩
  case rest =>
    clear HC6
    try clear c1
    try clear p2
    try clear c5
    try clear c8
    try clear c8b0
    try clear c8b1
    try clear c11
    try clear c11b0
    try clear c11b1
    obtain ⟨kq, x34_5, rfl, HA, HJ5, ⟨mc5, rfl⟩⟩ := hcut
    cases kq with
    | zero => exact absurd HA.out (by simp [agoralaw04_GroupPowers.j0])
    | succ kj5 =>
      have H := HA.out
      clear HA
      simp only [agoralaw04_GroupPowers.j0] at H
      by_cases c14 : x34_5 = true
      · subst c14
        have H1 : (none) = some r := by rw [if_pos rfl] at H; exact H
        clear H
        have H := H1
        clear H1
        exact absurd H (by simp)
      · replace c14 := Bool.eq_false_iff.mpr c14
        subst c14
        have H1 : ((group_Add.f a0 0).bind fun t231 => (if t231 = 0 then (agoralaw04_GroupPowers.j1 kj5 a0 a1 a2 a3 t225 true) else ((group_Add.f a1 0).bind fun t232 => (agoralaw04_GroupPowers.j1 kj5 a0 a1 a2 a3 t225 (t232 == 0))))) = some r := by rw [if_neg (show ¬ (false = true) by decide)] at H; exact H
        clear H
        have H := H1
        clear H1
        have HC15 := Aside0.mk H
        clear H
        go_upto_region 4 with (fail)
        go_cut [42] (fun v42 wc => ∃ (kq : Nat) (x42_14 : Bool), v42 = .bool x42_14 ∧ Aside0 (agoralaw04_GroupPowers.j1 kq a0 a1 a2 a3 t225 x42_14 = some r) ∧ Aside0 (kq ≤ kj5) ∧ Drawn0 w wc)
        case first =>
          have H := HC15.out
          clear HC15
          replace H := Option.bind_eq_some_iff.mp H
          obtain ⟨t231, A160, H⟩ := H
          replace H : (if t231 = 0 then (agoralaw04_GroupPowers.j1 kj5 a0 a1 a2 a3 t225 true) else ((group_Add.f a1 0).bind fun t232 => (agoralaw04_GroupPowers.j1 kj5 a0 a1 a2 a3 t225 (t232 == 0)))) = some r := H
          have A16 := Aside0.mk A160
          clear A160
          by_cases c17 : t231 = 0
          · rw [if_pos c17] at H
            have c17b0 : (t231 == 0) = true := beq_iff_eq.mpr c17
            have c17b1 : (t231 != 0) = false := bne_eq_false_iff_eq.mpr c17
            clear c17
            (first | rw [c17b0] | (simp only [i64_w, i32_w]; rw [c17b0]) | skip)
            have H' := Aside0.mk H
            clear H
            go_wp2_with (first | ((with_reducible refine gate_callee (f := 11) rfl ?_); refine goesL_ (some 36) rfl rfl Try.func11 (by kernel_rfl) rfl #[.int .i64 a0, .int .i64 0] rfl (by (try simp only [List.map_toArray, List.map_cons, List.map_nil]); first | done | rfl | (simp only [List.length_drop, List.length_take]; rfl)) ?_; (with_reducible refine (group_Add.calls a0 0 t231 _ A16.out).mono ?_); rintro e w' ⟨rfl, ⟨nd, rfl⟩⟩; refine ⟨_, rfl, ?_⟩))
            go_meet
            case rel => exact ⟨_, (true), (by first | rfl | (simp; done) | (simp [*]; done)), H', ⟨by have := HJ5.out; first | omega | exact Nat.le_refl _⟩, by repeat (first | exact Drawn0.refl _ | apply Drawn0.step)⟩
          · rw [if_neg c17] at H
            have c17b0 : (t231 == 0) = false := beq_eq_false_iff_ne.mpr c17
            have c17b1 : (t231 != 0) = true := bne_iff_ne.mpr c17
            (first | rw [c17b0] | (simp only [i64_w, i32_w]; rw [c17b0]) | skip)
            replace H := Option.bind_eq_some_iff.mp H
            obtain ⟨t232, A180, H⟩ := H
            replace H : (agoralaw04_GroupPowers.j1 kj5 a0 a1 a2 a3 t225 (t232 == 0)) = some r := H
            have A18 := Aside0.mk A180
            clear A180
            have H' := Aside0.mk H
            clear H
            go_wp2_with (first | ((with_reducible refine gate_callee (f := 11) rfl ?_); refine goesL_ (some 36) rfl rfl Try.func11 (by kernel_rfl) rfl #[.int .i64 a0, .int .i64 0] rfl (by (try simp only [List.map_toArray, List.map_cons, List.map_nil]); first | done | rfl | (simp only [List.length_drop, List.length_take]; rfl)) ?_; (with_reducible refine (group_Add.calls a0 0 t231 _ A16.out).mono ?_); rintro e w' ⟨rfl, ⟨nd, rfl⟩⟩; refine ⟨_, rfl, ?_⟩) | (go_at_call 11; (with_reducible refine (group_Add.calls a1 0 t232 _ A18.out).mono ?_); rintro e w' ⟨rfl, ⟨nd, rfl⟩⟩))
            go_meet
            case rel => exact ⟨_, ((t232 == 0)), (by first | rfl | (simp; done) | (simp [*]; done)), H', ⟨by have := HJ5.out; first | omega | exact Nat.le_refl _⟩, by repeat (first | exact Drawn0.refl _ | apply Drawn0.step)⟩
        case rest =>
          clear HC15
          try clear c1
          try clear p2
          try clear c5
          try clear c8
          try clear c8b0
          try clear c8b1
          try clear c11
          try clear c11b0
          try clear c11b1
          try clear c14
          try clear c17
          try clear c17b0
          try clear c17b1
          try clear p2
          obtain ⟨kq, x42_14, rfl, HA, HJ14, ⟨mc14, rfl⟩⟩ := hcut
          cases kq with
          | zero => exact absurd HA.out (by simp [agoralaw04_GroupPowers.j1])
          | succ kj14 =>
            have H := HA.out
            clear HA
            simp only [agoralaw04_GroupPowers.j1] at H
            by_cases c19 : x42_14 = true
            · subst c19
              have H1 : (some t225) = some r := by rw [if_pos rfl] at H; exact H
              clear H
              have H := H1
              clear H1
              obtain rfl := Option.some.inj H
              go_wp2
              go_ret
              exact ⟨by first | rfl | (simp; done) | (simp [*]; done), by repeat (first | exact Drawn0.refl _ | apply Drawn0.step)⟩
            · replace c19 := Bool.eq_false_iff.mpr c19
              subst c19
              have H1 : ((group_Exp.f kj14 a0 a2).bind fun t233 => ((group_Exp.f kj14 a0 a3).bind fun t234 => ((group_Mul.f kj14 t233 t234).bind fun t235 => ((group_AddN.f a2 a3).bind fun t236 => ((group_Exp.f kj14 a0 t236).bind fun t237 => ((group_Exp.f kj14 a0 a2).bind fun t238 => ((group_Exp.f kj14 t238 a3).bind fun t239 => ((group_MulN.f kj14 a2 a3).bind fun t240 => ((group_Exp.f kj14 a0 t240).bind fun t241 => ((group_Exp.f kj14 a0 a2).bind fun t242 => ((group_Exp.f kj14 a1 a2).bind fun t243 => ((group_Mul.f kj14 t242 t243).bind fun t244 => ((group_Mul.f kj14 a0 a1).bind fun t245 => ((group_Exp.f kj14 t245 a2).bind fun t246 => ((group_Exp.f kj14 a0 a2).bind fun t247 => ((group_Inv.f kj14 t247).bind fun bt248 => (if bt248.2 = true then ((group_SubN.f 0 a2).bind fun t250 => ((group_Exp.f kj14 a0 t250).bind fun t251 => (if bt248.1 = t251 then ((group_Exp.f kj14 a0 a2).bind fun t252 => ((group_AddN.f a2 0).bind fun t253 => ((group_Exp.f kj14 a0 t253).bind fun t254 => (if t225 = true then (if t235 = t237 then (if t239 = t241 then (if t244 = t246 then (some (t252 == t254)) else (none)) else (none)) else (none)) else (none))))) else (none)))) else (none)))))))))))))))))) = some r := by rw [if_neg (show ¬ (false = true) by decide)] at H; exact H
              clear H
              have H := H1
              clear H1
              replace H := Option.bind_eq_some_iff.mp H
              obtain ⟨t233, A200, H⟩ := H
              replace H : ((group_Exp.f kj14 a0 a3).bind fun t234 => ((group_Mul.f kj14 t233 t234).bind fun t235 => ((group_AddN.f a2 a3).bind fun t236 => ((group_Exp.f kj14 a0 t236).bind fun t237 => ((group_Exp.f kj14 a0 a2).bind fun t238 => ((group_Exp.f kj14 t238 a3).bind fun t239 => ((group_MulN.f kj14 a2 a3).bind fun t240 => ((group_Exp.f kj14 a0 t240).bind fun t241 => ((group_Exp.f kj14 a0 a2).bind fun t242 => ((group_Exp.f kj14 a1 a2).bind fun t243 => ((group_Mul.f kj14 t242 t243).bind fun t244 => ((group_Mul.f kj14 a0 a1).bind fun t245 => ((group_Exp.f kj14 t245 a2).bind fun t246 => ((group_Exp.f kj14 a0 a2).bind fun t247 => ((group_Inv.f kj14 t247).bind fun bt248 => (if bt248.2 = true then ((group_SubN.f 0 a2).bind fun t250 => ((group_Exp.f kj14 a0 t250).bind fun t251 => (if bt248.1 = t251 then ((group_Exp.f kj14 a0 a2).bind fun t252 => ((group_AddN.f a2 0).bind fun t253 => ((group_Exp.f kj14 a0 t253).bind fun t254 => (if t225 = true then (if t235 = t237 then (if t239 = t241 then (if t244 = t246 then (some (t252 == t254)) else (none)) else (none)) else (none)) else (none))))) else (none)))) else (none))))))))))))))))) = some r := H
              have A20 := Aside0.mk A200
              clear A200
              replace H := Option.bind_eq_some_iff.mp H
              obtain ⟨t234, A210, H⟩ := H
              replace H : ((group_Mul.f kj14 t233 t234).bind fun t235 => ((group_AddN.f a2 a3).bind fun t236 => ((group_Exp.f kj14 a0 t236).bind fun t237 => ((group_Exp.f kj14 a0 a2).bind fun t238 => ((group_Exp.f kj14 t238 a3).bind fun t239 => ((group_MulN.f kj14 a2 a3).bind fun t240 => ((group_Exp.f kj14 a0 t240).bind fun t241 => ((group_Exp.f kj14 a0 a2).bind fun t242 => ((group_Exp.f kj14 a1 a2).bind fun t243 => ((group_Mul.f kj14 t242 t243).bind fun t244 => ((group_Mul.f kj14 a0 a1).bind fun t245 => ((group_Exp.f kj14 t245 a2).bind fun t246 => ((group_Exp.f kj14 a0 a2).bind fun t247 => ((group_Inv.f kj14 t247).bind fun bt248 => (if bt248.2 = true then ((group_SubN.f 0 a2).bind fun t250 => ((group_Exp.f kj14 a0 t250).bind fun t251 => (if bt248.1 = t251 then ((group_Exp.f kj14 a0 a2).bind fun t252 => ((group_AddN.f a2 0).bind fun t253 => ((group_Exp.f kj14 a0 t253).bind fun t254 => (if t225 = true then (if t235 = t237 then (if t239 = t241 then (if t244 = t246 then (some (t252 == t254)) else (none)) else (none)) else (none)) else (none))))) else (none)))) else (none)))))))))))))))) = some r := H
              have A21 := Aside0.mk A210
              clear A210
              replace H := Option.bind_eq_some_iff.mp H
              obtain ⟨t235, A220, H⟩ := H
              replace H : ((group_AddN.f a2 a3).bind fun t236 => ((group_Exp.f kj14 a0 t236).bind fun t237 => ((group_Exp.f kj14 a0 a2).bind fun t238 => ((group_Exp.f kj14 t238 a3).bind fun t239 => ((group_MulN.f kj14 a2 a3).bind fun t240 => ((group_Exp.f kj14 a0 t240).bind fun t241 => ((group_Exp.f kj14 a0 a2).bind fun t242 => ((group_Exp.f kj14 a1 a2).bind fun t243 => ((group_Mul.f kj14 t242 t243).bind fun t244 => ((group_Mul.f kj14 a0 a1).bind fun t245 => ((group_Exp.f kj14 t245 a2).bind fun t246 => ((group_Exp.f kj14 a0 a2).bind fun t247 => ((group_Inv.f kj14 t247).bind fun bt248 => (if bt248.2 = true then ((group_SubN.f 0 a2).bind fun t250 => ((group_Exp.f kj14 a0 t250).bind fun t251 => (if bt248.1 = t251 then ((group_Exp.f kj14 a0 a2).bind fun t252 => ((group_AddN.f a2 0).bind fun t253 => ((group_Exp.f kj14 a0 t253).bind fun t254 => (if t225 = true then (if t235 = t237 then (if t239 = t241 then (if t244 = t246 then (some (t252 == t254)) else (none)) else (none)) else (none)) else (none))))) else (none)))) else (none))))))))))))))) = some r := H
              have A22 := Aside0.mk A220
              clear A220
              replace H := Option.bind_eq_some_iff.mp H
              obtain ⟨t236, A230, H⟩ := H
              replace H : ((group_Exp.f kj14 a0 t236).bind fun t237 => ((group_Exp.f kj14 a0 a2).bind fun t238 => ((group_Exp.f kj14 t238 a3).bind fun t239 => ((group_MulN.f kj14 a2 a3).bind fun t240 => ((group_Exp.f kj14 a0 t240).bind fun t241 => ((group_Exp.f kj14 a0 a2).bind fun t242 => ((group_Exp.f kj14 a1 a2).bind fun t243 => ((group_Mul.f kj14 t242 t243).bind fun t244 => ((group_Mul.f kj14 a0 a1).bind fun t245 => ((group_Exp.f kj14 t245 a2).bind fun t246 => ((group_Exp.f kj14 a0 a2).bind fun t247 => ((group_Inv.f kj14 t247).bind fun bt248 => (if bt248.2 = true then ((group_SubN.f 0 a2).bind fun t250 => ((group_Exp.f kj14 a0 t250).bind fun t251 => (if bt248.1 = t251 then ((group_Exp.f kj14 a0 a2).bind fun t252 => ((group_AddN.f a2 0).bind fun t253 => ((group_Exp.f kj14 a0 t253).bind fun t254 => (if t225 = true then (if t235 = t237 then (if t239 = t241 then (if t244 = t246 then (some (t252 == t254)) else (none)) else (none)) else (none)) else (none))))) else (none)))) else (none)))))))))))))) = some r := H
              have A23 := Aside0.mk A230
              clear A230
              replace H := Option.bind_eq_some_iff.mp H
              obtain ⟨t237, A240, H⟩ := H
              replace H : ((group_Exp.f kj14 a0 a2).bind fun t238 => ((group_Exp.f kj14 t238 a3).bind fun t239 => ((group_MulN.f kj14 a2 a3).bind fun t240 => ((group_Exp.f kj14 a0 t240).bind fun t241 => ((group_Exp.f kj14 a0 a2).bind fun t242 => ((group_Exp.f kj14 a1 a2).bind fun t243 => ((group_Mul.f kj14 t242 t243).bind fun t244 => ((group_Mul.f kj14 a0 a1).bind fun t245 => ((group_Exp.f kj14 t245 a2).bind fun t246 => ((group_Exp.f kj14 a0 a2).bind fun t247 => ((group_Inv.f kj14 t247).bind fun bt248 => (if bt248.2 = true then ((group_SubN.f 0 a2).bind fun t250 => ((group_Exp.f kj14 a0 t250).bind fun t251 => (if bt248.1 = t251 then ((group_Exp.f kj14 a0 a2).bind fun t252 => ((group_AddN.f a2 0).bind fun t253 => ((group_Exp.f kj14 a0 t253).bind fun t254 => (if t225 = true then (if t235 = t237 then (if t239 = t241 then (if t244 = t246 then (some (t252 == t254)) else (none)) else (none)) else (none)) else (none))))) else (none)))) else (none))))))))))))) = some r := H
              have A24 := Aside0.mk A240
              clear A240
              replace H := Option.bind_eq_some_iff.mp H
              obtain ⟨t238, A250, H⟩ := H
              replace H : ((group_Exp.f kj14 t238 a3).bind fun t239 => ((group_MulN.f kj14 a2 a3).bind fun t240 => ((group_Exp.f kj14 a0 t240).bind fun t241 => ((group_Exp.f kj14 a0 a2).bind fun t242 => ((group_Exp.f kj14 a1 a2).bind fun t243 => ((group_Mul.f kj14 t242 t243).bind fun t244 => ((group_Mul.f kj14 a0 a1).bind fun t245 => ((group_Exp.f kj14 t245 a2).bind fun t246 => ((group_Exp.f kj14 a0 a2).bind fun t247 => ((group_Inv.f kj14 t247).bind fun bt248 => (if bt248.2 = true then ((group_SubN.f 0 a2).bind fun t250 => ((group_Exp.f kj14 a0 t250).bind fun t251 => (if bt248.1 = t251 then ((group_Exp.f kj14 a0 a2).bind fun t252 => ((group_AddN.f a2 0).bind fun t253 => ((group_Exp.f kj14 a0 t253).bind fun t254 => (if t225 = true then (if t235 = t237 then (if t239 = t241 then (if t244 = t246 then (some (t252 == t254)) else (none)) else (none)) else (none)) else (none))))) else (none)))) else (none)))))))))))) = some r := H
              have A25 := Aside0.mk A250
              clear A250
              replace H := Option.bind_eq_some_iff.mp H
              obtain ⟨t239, A260, H⟩ := H
              replace H : ((group_MulN.f kj14 a2 a3).bind fun t240 => ((group_Exp.f kj14 a0 t240).bind fun t241 => ((group_Exp.f kj14 a0 a2).bind fun t242 => ((group_Exp.f kj14 a1 a2).bind fun t243 => ((group_Mul.f kj14 t242 t243).bind fun t244 => ((group_Mul.f kj14 a0 a1).bind fun t245 => ((group_Exp.f kj14 t245 a2).bind fun t246 => ((group_Exp.f kj14 a0 a2).bind fun t247 => ((group_Inv.f kj14 t247).bind fun bt248 => (if bt248.2 = true then ((group_SubN.f 0 a2).bind fun t250 => ((group_Exp.f kj14 a0 t250).bind fun t251 => (if bt248.1 = t251 then ((group_Exp.f kj14 a0 a2).bind fun t252 => ((group_AddN.f a2 0).bind fun t253 => ((group_Exp.f kj14 a0 t253).bind fun t254 => (if t225 = true then (if t235 = t237 then (if t239 = t241 then (if t244 = t246 then (some (t252 == t254)) else (none)) else (none)) else (none)) else (none))))) else (none)))) else (none))))))))))) = some r := H
              have A26 := Aside0.mk A260
              clear A260
              replace H := Option.bind_eq_some_iff.mp H
              obtain ⟨t240, A270, H⟩ := H
              replace H : ((group_Exp.f kj14 a0 t240).bind fun t241 => ((group_Exp.f kj14 a0 a2).bind fun t242 => ((group_Exp.f kj14 a1 a2).bind fun t243 => ((group_Mul.f kj14 t242 t243).bind fun t244 => ((group_Mul.f kj14 a0 a1).bind fun t245 => ((group_Exp.f kj14 t245 a2).bind fun t246 => ((group_Exp.f kj14 a0 a2).bind fun t247 => ((group_Inv.f kj14 t247).bind fun bt248 => (if bt248.2 = true then ((group_SubN.f 0 a2).bind fun t250 => ((group_Exp.f kj14 a0 t250).bind fun t251 => (if bt248.1 = t251 then ((group_Exp.f kj14 a0 a2).bind fun t252 => ((group_AddN.f a2 0).bind fun t253 => ((group_Exp.f kj14 a0 t253).bind fun t254 => (if t225 = true then (if t235 = t237 then (if t239 = t241 then (if t244 = t246 then (some (t252 == t254)) else (none)) else (none)) else (none)) else (none))))) else (none)))) else (none)))))))))) = some r := H
              have A27 := Aside0.mk A270
              clear A270
              replace H := Option.bind_eq_some_iff.mp H
              obtain ⟨t241, A280, H⟩ := H
              replace H : ((group_Exp.f kj14 a0 a2).bind fun t242 => ((group_Exp.f kj14 a1 a2).bind fun t243 => ((group_Mul.f kj14 t242 t243).bind fun t244 => ((group_Mul.f kj14 a0 a1).bind fun t245 => ((group_Exp.f kj14 t245 a2).bind fun t246 => ((group_Exp.f kj14 a0 a2).bind fun t247 => ((group_Inv.f kj14 t247).bind fun bt248 => (if bt248.2 = true then ((group_SubN.f 0 a2).bind fun t250 => ((group_Exp.f kj14 a0 t250).bind fun t251 => (if bt248.1 = t251 then ((group_Exp.f kj14 a0 a2).bind fun t252 => ((group_AddN.f a2 0).bind fun t253 => ((group_Exp.f kj14 a0 t253).bind fun t254 => (if t225 = true then (if t235 = t237 then (if t239 = t241 then (if t244 = t246 then (some (t252 == t254)) else (none)) else (none)) else (none)) else (none))))) else (none)))) else (none))))))))) = some r := H
              have A28 := Aside0.mk A280
              clear A280
              replace H := Option.bind_eq_some_iff.mp H
              obtain ⟨t242, A290, H⟩ := H
              replace H : ((group_Exp.f kj14 a1 a2).bind fun t243 => ((group_Mul.f kj14 t242 t243).bind fun t244 => ((group_Mul.f kj14 a0 a1).bind fun t245 => ((group_Exp.f kj14 t245 a2).bind fun t246 => ((group_Exp.f kj14 a0 a2).bind fun t247 => ((group_Inv.f kj14 t247).bind fun bt248 => (if bt248.2 = true then ((group_SubN.f 0 a2).bind fun t250 => ((group_Exp.f kj14 a0 t250).bind fun t251 => (if bt248.1 = t251 then ((group_Exp.f kj14 a0 a2).bind fun t252 => ((group_AddN.f a2 0).bind fun t253 => ((group_Exp.f kj14 a0 t253).bind fun t254 => (if t225 = true then (if t235 = t237 then (if t239 = t241 then (if t244 = t246 then (some (t252 == t254)) else (none)) else (none)) else (none)) else (none))))) else (none)))) else (none)))))))) = some r := H
              have A29 := Aside0.mk A290
              clear A290
              replace H := Option.bind_eq_some_iff.mp H
              obtain ⟨t243, A300, H⟩ := H
              replace H : ((group_Mul.f kj14 t242 t243).bind fun t244 => ((group_Mul.f kj14 a0 a1).bind fun t245 => ((group_Exp.f kj14 t245 a2).bind fun t246 => ((group_Exp.f kj14 a0 a2).bind fun t247 => ((group_Inv.f kj14 t247).bind fun bt248 => (if bt248.2 = true then ((group_SubN.f 0 a2).bind fun t250 => ((group_Exp.f kj14 a0 t250).bind fun t251 => (if bt248.1 = t251 then ((group_Exp.f kj14 a0 a2).bind fun t252 => ((group_AddN.f a2 0).bind fun t253 => ((group_Exp.f kj14 a0 t253).bind fun t254 => (if t225 = true then (if t235 = t237 then (if t239 = t241 then (if t244 = t246 then (some (t252 == t254)) else (none)) else (none)) else (none)) else (none))))) else (none)))) else (none))))))) = some r := H
              have A30 := Aside0.mk A300
              clear A300
              replace H := Option.bind_eq_some_iff.mp H
              obtain ⟨t244, A310, H⟩ := H
              replace H : ((group_Mul.f kj14 a0 a1).bind fun t245 => ((group_Exp.f kj14 t245 a2).bind fun t246 => ((group_Exp.f kj14 a0 a2).bind fun t247 => ((group_Inv.f kj14 t247).bind fun bt248 => (if bt248.2 = true then ((group_SubN.f 0 a2).bind fun t250 => ((group_Exp.f kj14 a0 t250).bind fun t251 => (if bt248.1 = t251 then ((group_Exp.f kj14 a0 a2).bind fun t252 => ((group_AddN.f a2 0).bind fun t253 => ((group_Exp.f kj14 a0 t253).bind fun t254 => (if t225 = true then (if t235 = t237 then (if t239 = t241 then (if t244 = t246 then (some (t252 == t254)) else (none)) else (none)) else (none)) else (none))))) else (none)))) else (none)))))) = some r := H
              have A31 := Aside0.mk A310
              clear A310
              replace H := Option.bind_eq_some_iff.mp H
              obtain ⟨t245, A320, H⟩ := H
              replace H : ((group_Exp.f kj14 t245 a2).bind fun t246 => ((group_Exp.f kj14 a0 a2).bind fun t247 => ((group_Inv.f kj14 t247).bind fun bt248 => (if bt248.2 = true then ((group_SubN.f 0 a2).bind fun t250 => ((group_Exp.f kj14 a0 t250).bind fun t251 => (if bt248.1 = t251 then ((group_Exp.f kj14 a0 a2).bind fun t252 => ((group_AddN.f a2 0).bind fun t253 => ((group_Exp.f kj14 a0 t253).bind fun t254 => (if t225 = true then (if t235 = t237 then (if t239 = t241 then (if t244 = t246 then (some (t252 == t254)) else (none)) else (none)) else (none)) else (none))))) else (none)))) else (none))))) = some r := H
              have A32 := Aside0.mk A320
              clear A320
              replace H := Option.bind_eq_some_iff.mp H
              obtain ⟨t246, A330, H⟩ := H
              replace H : ((group_Exp.f kj14 a0 a2).bind fun t247 => ((group_Inv.f kj14 t247).bind fun bt248 => (if bt248.2 = true then ((group_SubN.f 0 a2).bind fun t250 => ((group_Exp.f kj14 a0 t250).bind fun t251 => (if bt248.1 = t251 then ((group_Exp.f kj14 a0 a2).bind fun t252 => ((group_AddN.f a2 0).bind fun t253 => ((group_Exp.f kj14 a0 t253).bind fun t254 => (if t225 = true then (if t235 = t237 then (if t239 = t241 then (if t244 = t246 then (some (t252 == t254)) else (none)) else (none)) else (none)) else (none))))) else (none)))) else (none)))) = some r := H
              have A33 := Aside0.mk A330
              clear A330
              replace H := Option.bind_eq_some_iff.mp H
              obtain ⟨t247, A340, H⟩ := H
              replace H : ((group_Inv.f kj14 t247).bind fun bt248 => (if bt248.2 = true then ((group_SubN.f 0 a2).bind fun t250 => ((group_Exp.f kj14 a0 t250).bind fun t251 => (if bt248.1 = t251 then ((group_Exp.f kj14 a0 a2).bind fun t252 => ((group_AddN.f a2 0).bind fun t253 => ((group_Exp.f kj14 a0 t253).bind fun t254 => (if t225 = true then (if t235 = t237 then (if t239 = t241 then (if t244 = t246 then (some (t252 == t254)) else (none)) else (none)) else (none)) else (none))))) else (none)))) else (none))) = some r := H
              have A34 := Aside0.mk A340
              clear A340
              replace H := Option.bind_eq_some_iff.mp H
              obtain ⟨⟨t248, t249⟩, A350, H⟩ := H
              replace H : (if t249 = true then ((group_SubN.f 0 a2).bind fun t250 => ((group_Exp.f kj14 a0 t250).bind fun t251 => (if t248 = t251 then ((group_Exp.f kj14 a0 a2).bind fun t252 => ((group_AddN.f a2 0).bind fun t253 => ((group_Exp.f kj14 a0 t253).bind fun t254 => (if t225 = true then (if t235 = t237 then (if t239 = t241 then (if t244 = t246 then (some (t252 == t254)) else (none)) else (none)) else (none)) else (none))))) else (none)))) else (none)) = some r := H
              have A35 := Aside0.mk A350
              clear A350
              by_cases c36 : t249 = true
              · subst c36
                have H1 : ((group_SubN.f 0 a2).bind fun t250 => ((group_Exp.f kj14 a0 t250).bind fun t251 => (if t248 = t251 then ((group_Exp.f kj14 a0 a2).bind fun t252 => ((group_AddN.f a2 0).bind fun t253 => ((group_Exp.f kj14 a0 t253).bind fun t254 => (if t225 = true then (if t235 = t237 then (if t239 = t241 then (if t244 = t246 then (some (t252 == t254)) else (none)) else (none)) else (none)) else (none))))) else (none)))) = some r := by rw [if_pos rfl] at H; exact H
                clear H
                have H := H1
                clear H1
                replace H := Option.bind_eq_some_iff.mp H
                obtain ⟨t250, A370, H⟩ := H
                replace H : ((group_Exp.f kj14 a0 t250).bind fun t251 => (if t248 = t251 then ((group_Exp.f kj14 a0 a2).bind fun t252 => ((group_AddN.f a2 0).bind fun t253 => ((group_Exp.f kj14 a0 t253).bind fun t254 => (if t225 = true then (if t235 = t237 then (if t239 = t241 then (if t244 = t246 then (some (t252 == t254)) else (none)) else (none)) else (none)) else (none))))) else (none))) = some r := H
                have A37 := Aside0.mk A370
                clear A370
                replace H := Option.bind_eq_some_iff.mp H
                obtain ⟨t251, A380, H⟩ := H
                replace H : (if t248 = t251 then ((group_Exp.f kj14 a0 a2).bind fun t252 => ((group_AddN.f a2 0).bind fun t253 => ((group_Exp.f kj14 a0 t253).bind fun t254 => (if t225 = true then (if t235 = t237 then (if t239 = t241 then (if t244 = t246 then (some (t252 == t254)) else (none)) else (none)) else (none)) else (none))))) else (none)) = some r := H
                have A38 := Aside0.mk A380
                clear A380
                by_cases c39 : t248 = t251
                · rw [if_pos c39] at H
                  have c39b0 : (t248 == t251) = true := beq_iff_eq.mpr c39
                  have c39b1 : (t248 != t251) = false := bne_eq_false_iff_eq.mpr c39
                  clear c39
                  replace H := Option.bind_eq_some_iff.mp H
                  obtain ⟨t252, A400, H⟩ := H
                  replace H : ((group_AddN.f a2 0).bind fun t253 => ((group_Exp.f kj14 a0 t253).bind fun t254 => (if t225 = true then (if t235 = t237 then (if t239 = t241 then (if t244 = t246 then (some (t252 == t254)) else (none)) else (none)) else (none)) else (none)))) = some r := H
                  have A40 := Aside0.mk A400
                  clear A400
                  replace H := Option.bind_eq_some_iff.mp H
                  obtain ⟨t253, A410, H⟩ := H
                  replace H : ((group_Exp.f kj14 a0 t253).bind fun t254 => (if t225 = true then (if t235 = t237 then (if t239 = t241 then (if t244 = t246 then (some (t252 == t254)) else (none)) else (none)) else (none)) else (none))) = some r := H
                  have A41 := Aside0.mk A410
                  clear A410
                  replace H := Option.bind_eq_some_iff.mp H
                  obtain ⟨t254, A420, H⟩ := H
                  replace H : (if t225 = true then (if t235 = t237 then (if t239 = t241 then (if t244 = t246 then (some (t252 == t254)) else (none)) else (none)) else (none)) else (none)) = some r := H
                  have A42 := Aside0.mk A420
                  clear A420
                  by_cases c43 : t225 = true
                  · subst c43
                    have H1 : (if t235 = t237 then (if t239 = t241 then (if t244 = t246 then (some (t252 == t254)) else (none)) else (none)) else (none)) = some r := by rw [if_pos rfl] at H; exact H
                    clear H
                    have H := H1
                    clear H1
                    by_cases c44 : t235 = t237
                    · rw [if_pos c44] at H
                      have c44b0 : (t235 == t237) = true := beq_iff_eq.mpr c44
                      have c44b1 : (t235 != t237) = false := bne_eq_false_iff_eq.mpr c44
                      clear c44
                      by_cases c45 : t239 = t241
                      · rw [if_pos c45] at H
                        have c45b0 : (t239 == t241) = true := beq_iff_eq.mpr c45
                        have c45b1 : (t239 != t241) = false := bne_eq_false_iff_eq.mpr c45
                        clear c45
                        by_cases c46 : t244 = t246
                        · rw [if_pos c46] at H
                          have c46b0 : (t244 == t246) = true := beq_iff_eq.mpr c46
                          have c46b1 : (t244 != t246) = false := bne_eq_false_iff_eq.mpr c46
                          clear c46
                          obtain rfl := Option.some.inj H
                          go_wp2_with (first | ((with_reducible refine gate_callee (f := 17) rfl ?_); refine goesL_ (some 46) rfl rfl Try.func17 (by kernel_rfl) rfl #[.int .i64 a0, .int .i64 a2] rfl (by (try simp only [List.map_toArray, List.map_cons, List.map_nil]); first | done | rfl | (simp only [List.length_drop, List.length_take]; rfl)) ?_; (with_reducible refine (group_Exp.calls kj14 a0 a2 t233 _ A20.out).mono ?_); rintro e w' ⟨rfl, ⟨nd, rfl⟩⟩; refine ⟨_, rfl, ?_⟩) | ((with_reducible refine gate_callee (f := 17) rfl ?_); refine goesL_ (some 49) rfl rfl Try.func17 (by kernel_rfl) rfl #[.int .i64 a0, .int .i64 a3] rfl (by (try simp only [List.map_toArray, List.map_cons, List.map_nil]); first | done | rfl | (simp only [List.length_drop, List.length_take]; rfl)) ?_; (with_reducible refine (group_Exp.calls kj14 a0 a3 t234 _ A21.out).mono ?_); rintro e w' ⟨rfl, ⟨nd, rfl⟩⟩; refine ⟨_, rfl, ?_⟩) | ((with_reducible refine gate_callee (f := 15) rfl ?_); refine goesL_ (some 50) rfl rfl Try.func15 (by kernel_rfl) rfl #[.int .i64 t233, .int .i64 t234] rfl (by (try simp only [List.map_toArray, List.map_cons, List.map_nil]); first | done | rfl | (simp only [List.length_drop, List.length_take]; rfl)) ?_; (with_reducible refine (group_Mul.calls kj14 t233 t234 t235 _ A22.out).mono ?_); rintro e w' ⟨rfl, ⟨nd, rfl⟩⟩; refine ⟨_, rfl, ?_⟩) | ((with_reducible refine gate_callee (f := 19) rfl ?_); refine goesL_ (some 54) rfl rfl Try.func19 (by kernel_rfl) rfl #[.int .i64 a2, .int .i64 a3] rfl (by (try simp only [List.map_toArray, List.map_cons, List.map_nil]); first | done | rfl | (simp only [List.length_drop, List.length_take]; rfl)) ?_; (with_reducible refine (group_AddN.calls a2 a3 t236 _ A23.out).mono ?_); rintro e w' ⟨rfl, ⟨nd, rfl⟩⟩; refine ⟨_, rfl, ?_⟩) | ((with_reducible refine gate_callee (f := 17) rfl ?_); refine goesL_ (some 55) rfl rfl Try.func17 (by kernel_rfl) rfl #[.int .i64 a0, .int .i64 t236] rfl (by (try simp only [List.map_toArray, List.map_cons, List.map_nil]); first | done | rfl | (simp only [List.length_drop, List.length_take]; rfl)) ?_; (with_reducible refine (group_Exp.calls kj14 a0 t236 t237 _ A24.out).mono ?_); rintro e w' ⟨rfl, ⟨nd, rfl⟩⟩; refine ⟨_, rfl, ?_⟩) | ((with_reducible refine gate_callee (f := 17) rfl ?_); refine goesL_ (some 59) rfl rfl Try.func17 (by kernel_rfl) rfl #[.int .i64 a0, .int .i64 a2] rfl (by (try simp only [List.map_toArray, List.map_cons, List.map_nil]); first | done | rfl | (simp only [List.length_drop, List.length_take]; rfl)) ?_; (with_reducible refine (group_Exp.calls kj14 a0 a2 t238 _ A25.out).mono ?_); rintro e w' ⟨rfl, ⟨nd, rfl⟩⟩; refine ⟨_, rfl, ?_⟩) | ((with_reducible refine gate_callee (f := 17) rfl ?_); refine goesL_ (some 61) rfl rfl Try.func17 (by kernel_rfl) rfl #[.int .i64 t238, .int .i64 a3] rfl (by (try simp only [List.map_toArray, List.map_cons, List.map_nil]); first | done | rfl | (simp only [List.length_drop, List.length_take]; rfl)) ?_; (with_reducible refine (group_Exp.calls kj14 t238 a3 t239 _ A26.out).mono ?_); rintro e w' ⟨rfl, ⟨nd, rfl⟩⟩; refine ⟨_, rfl, ?_⟩) | ((with_reducible refine gate_callee (f := 23) rfl ?_); refine goesL_ (some 65) rfl rfl Try.func23 (by kernel_rfl) rfl #[.int .i64 a2, .int .i64 a3] rfl (by (try simp only [List.map_toArray, List.map_cons, List.map_nil]); first | done | rfl | (simp only [List.length_drop, List.length_take]; rfl)) ?_; (with_reducible refine (group_MulN.calls kj14 a2 a3 t240 _ A27.out).mono ?_); rintro e w' ⟨rfl, ⟨nd, rfl⟩⟩; refine ⟨_, rfl, ?_⟩) | ((with_reducible refine gate_callee (f := 17) rfl ?_); refine goesL_ (some 66) rfl rfl Try.func17 (by kernel_rfl) rfl #[.int .i64 a0, .int .i64 t240] rfl (by (try simp only [List.map_toArray, List.map_cons, List.map_nil]); first | done | rfl | (simp only [List.length_drop, List.length_take]; rfl)) ?_; (with_reducible refine (group_Exp.calls kj14 a0 t240 t241 _ A28.out).mono ?_); rintro e w' ⟨rfl, ⟨nd, rfl⟩⟩; refine ⟨_, rfl, ?_⟩) | ((with_reducible refine gate_callee (f := 17) rfl ?_); refine goesL_ (some 70) rfl rfl Try.func17 (by kernel_rfl) rfl #[.int .i64 a0, .int .i64 a2] rfl (by (try simp only [List.map_toArray, List.map_cons, List.map_nil]); first | done | rfl | (simp only [List.length_drop, List.length_take]; rfl)) ?_; (with_reducible refine (group_Exp.calls kj14 a0 a2 t242 _ A29.out).mono ?_); rintro e w' ⟨rfl, ⟨nd, rfl⟩⟩; refine ⟨_, rfl, ?_⟩) | ((with_reducible refine gate_callee (f := 17) rfl ?_); refine goesL_ (some 73) rfl rfl Try.func17 (by kernel_rfl) rfl #[.int .i64 a1, .int .i64 a2] rfl (by (try simp only [List.map_toArray, List.map_cons, List.map_nil]); first | done | rfl | (simp only [List.length_drop, List.length_take]; rfl)) ?_; (with_reducible refine (group_Exp.calls kj14 a1 a2 t243 _ A30.out).mono ?_); rintro e w' ⟨rfl, ⟨nd, rfl⟩⟩; refine ⟨_, rfl, ?_⟩) | ((with_reducible refine gate_callee (f := 15) rfl ?_); refine goesL_ (some 74) rfl rfl Try.func15 (by kernel_rfl) rfl #[.int .i64 t242, .int .i64 t243] rfl (by (try simp only [List.map_toArray, List.map_cons, List.map_nil]); first | done | rfl | (simp only [List.length_drop, List.length_take]; rfl)) ?_; (with_reducible refine (group_Mul.calls kj14 t242 t243 t244 _ A31.out).mono ?_); rintro e w' ⟨rfl, ⟨nd, rfl⟩⟩; refine ⟨_, rfl, ?_⟩) | ((with_reducible refine gate_callee (f := 15) rfl ?_); refine goesL_ (some 77) rfl rfl Try.func15 (by kernel_rfl) rfl #[.int .i64 a0, .int .i64 a1] rfl (by (try simp only [List.map_toArray, List.map_cons, List.map_nil]); first | done | rfl | (simp only [List.length_drop, List.length_take]; rfl)) ?_; (with_reducible refine (group_Mul.calls kj14 a0 a1 t245 _ A32.out).mono ?_); rintro e w' ⟨rfl, ⟨nd, rfl⟩⟩; refine ⟨_, rfl, ?_⟩) | ((with_reducible refine gate_callee (f := 17) rfl ?_); refine goesL_ (some 79) rfl rfl Try.func17 (by kernel_rfl) rfl #[.int .i64 t245, .int .i64 a2] rfl (by (try simp only [List.map_toArray, List.map_cons, List.map_nil]); first | done | rfl | (simp only [List.length_drop, List.length_take]; rfl)) ?_; (with_reducible refine (group_Exp.calls kj14 t245 a2 t246 _ A33.out).mono ?_); rintro e w' ⟨rfl, ⟨nd, rfl⟩⟩; refine ⟨_, rfl, ?_⟩) | ((with_reducible refine gate_callee (f := 17) rfl ?_); refine goesL_ (some 84) rfl rfl Try.func17 (by kernel_rfl) rfl #[.int .i64 a0, .int .i64 a2] rfl (by (try simp only [List.map_toArray, List.map_cons, List.map_nil]); first | done | rfl | (simp only [List.length_drop, List.length_take]; rfl)) ?_; (with_reducible refine (group_Exp.calls kj14 a0 a2 t247 _ A34.out).mono ?_); rintro e w' ⟨rfl, ⟨nd, rfl⟩⟩; refine ⟨_, rfl, ?_⟩) | ((with_reducible refine gate_callee (f := 9) rfl ?_); refine goesL_ (some 85) rfl rfl Try.func9 (by kernel_rfl) rfl #[.int .i64 t247] rfl (by (try simp only [List.map_toArray, List.map_cons, List.map_nil]); first | done | rfl | (simp only [List.length_drop, List.length_take]; rfl)) ?_; (with_reducible refine (group_Inv.calls kj14 t247 t248 true _ A35.out).mono ?_); rintro e w' ⟨rfl, ⟨nd, rfl⟩⟩; refine ⟨_, rfl, ?_⟩) | (go_at_call 21; (with_reducible refine (group_SubN.calls 0 a2 t250 _ A37.out).mono ?_); rintro e w' ⟨rfl, ⟨nd, rfl⟩⟩) | (go_at_call 17; (with_reducible refine (group_Exp.calls kj14 a0 t250 t251 _ A38.out).mono ?_); rintro e w' ⟨rfl, ⟨nd, rfl⟩⟩) | (go_at_call 17; (with_reducible refine (group_Exp.calls kj14 a0 a2 t252 _ A40.out).mono ?_); rintro e w' ⟨rfl, ⟨nd, rfl⟩⟩) | (go_at_call 19; (with_reducible refine (group_AddN.calls a2 0 t253 _ A41.out).mono ?_); rintro e w' ⟨rfl, ⟨nd, rfl⟩⟩) | (go_at_call 17; (with_reducible refine (group_Exp.calls kj14 a0 t253 t254 _ A42.out).mono ?_); rintro e w' ⟨rfl, ⟨nd, rfl⟩⟩))
                          go_ret
                          exact ⟨by first | rfl | (simp; done) | (simp [*]; done), by repeat (first | exact Drawn0.refl _ | apply Drawn0.step)⟩
                        · rw [if_neg c46] at H
                          exact absurd H (by simp)
                      · rw [if_neg c45] at H
                        exact absurd H (by simp)
                    · rw [if_neg c44] at H
                      exact absurd H (by simp)
                  · replace c43 := Bool.eq_false_iff.mpr c43
                    subst c43
                    have H1 : (none) = some r := by rw [if_neg (show ¬ (false = true) by decide)] at H; exact H
                    clear H
                    have H := H1
                    clear H1
                    exact absurd H (by simp)
                · rw [if_neg c39] at H
                  exact absurd H (by simp)
              · replace c36 := Bool.eq_false_iff.mpr c36
                subst c36
                have H1 : (none) = some r := by rw [if_neg (show ¬ (false = true) by decide)] at H; exact H
                clear H
                have H := H1
                clear H1
                exact absurd H (by simp)

/-- THE ONE PURE STATEMENT of agoralaw04_GroupPowers: yours. -/
def agoralaw04_GroupPowers.Pure : Prop := ∀ (a0 : Int) (a1 : Int) (a2 : Int) (a3 : Int), (Lit.int .i64 a0).wf = true → (Lit.int .i64 a1).wf = true → (Lit.int .i64 a2).wf = true → (Lit.int .i64 a3).wf = true → ∃ k, agoralaw04_GroupPowers.f k a0 a1 a2 a3 = some true
theorem agoralaw04_GroupPowers.walk (P : agoralaw04_GroupPowers.Pure) (a0 : Int) (a1 : Int) (a2 : Int) (a3 : Int) (w : World) (w0 : (Lit.int .i64 a0).wf = true) (w1 : (Lit.int .i64 a1).wf = true) (w2 : (Lit.int .i64 a2).wf = true) (w3 : (Lit.int .i64 a3).wf = true) :
    Calls Try.prog 5 #[.int .i64 a0, .int .i64 a1, .int .i64 a2, .int .i64 a3] w fun e w' => e = .returned (.bool true) ∧ Below w.heap.size w w' := by
  obtain ⟨k, h⟩ := P a0 a1 a2 a3 w0 w1 w2 w3
  refine (agoralaw04_GroupPowers.calls k a0 a1 a2 a3 true w h).mono ?_
  rintro e w' ⟨rfl, hd⟩
  exact ⟨rfl, hd.below⟩

end Go.Proofs.Ytffmdbbndfmgdaa.P
