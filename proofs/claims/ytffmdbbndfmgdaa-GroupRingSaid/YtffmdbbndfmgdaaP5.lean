/- Functions of the given program as plain Lean functions, each with the proof that a call of it comes to what that function says (no conditions beside those in the statements). Written by a program of the session (myprint.py). -/
import Derived.Test.YtffmdbbndfmgdaaP0
import Derived.Test.YtffmdbbndfmgdaaP2
import Derived.Test.YtffmdbbndfmgdaaP3
namespace Go.Proofs.Ytffmdbbndfmgdaa.P
open Go.RowKit Go.Proofs.YtffmdbbndfmgdaaW.PrintWords Go.Proofs.YtffmdbbndfmgdaaW.PrintLast Go.Proofs.YtffmdbbndfmgdaaW.PrintMore
attribute [local go_sem] max2_int min2_int max_two min_two max_three min_three max_four min_four   -- for this text's walks alone
set_option linter.unusedVariables false
set_option linter.unusedSimpArgs false

/-! ### agoralaw04_GroupRing: function 6 -/
def agoralaw04_GroupRing.f (k : Nat) (a0 : Int) (a1 : Int) (a2 : Int) : Option (Bool) := (agoralaw04_small.f k).bind fun t255 => ((group_AddN.f a0 0).bind fun t256 => ((group_AddN.f a1 0).bind fun t257 => ((agoralaw04_in.f t256 2305843009213693950).bind fun t258 => (if t258 = true then ((group_MulN.f k a0 1).bind fun t259 => (if t259 = t256 then ((group_AddN.f t256 2305843009213693950).bind fun t260 => (if t260 = t256 then ((group_SubN.f a0 a0).bind fun t261 => ((group_AddN.f a0 a1).bind fun t262 => ((group_AddN.f a1 a0).bind fun t263 => (if t262 = t263 then ((group_MulN.f k a0 a1).bind fun t264 => ((group_MulN.f k a1 a0).bind fun t265 => (if t264 = t265 then ((group_AddN.f a0 a1).bind fun t266 => ((group_SubN.f t266 a1).bind fun t267 => ((group_AddN.f t266 a2).bind fun t268 => ((group_AddN.f a1 a2).bind fun t269 => ((group_AddN.f a0 t269).bind fun t270 => (if t268 = t270 then ((group_MulN.f k t264 a2).bind fun t271 => ((group_MulN.f k a1 a2).bind fun t272 => ((group_MulN.f k a0 t272).bind fun t273 => ((group_AddN.f a1 a2).bind fun t274 => ((group_MulN.f k a0 t274).bind fun t275 => ((group_MulN.f k a0 a2).bind fun t276 => ((group_AddN.f t264 t276).bind fun t277 => ((group_MulN.f k t256 t257).bind fun t278 => (if t278 = t264 then ((group_AddN.f t256 t257).bind fun t279 => (if t279 = t266 then ((group_SubN.f t256 t257).bind fun t280 => ((group_SubN.f a0 a1).bind fun t281 => (if t255 = true then (if t261 = 0 then (if t267 = t256 then (if t271 = t273 then (if t275 = t277 then (some (t280 == t281)) else (none)) else (none)) else (none)) else (none)) else (none)))) else (none))) else (none)))))))))) else (none))))))) else (none)))) else (none))))) else (none))) else (none))) else (none)))))
theorem agoralaw04_GroupRing.mono : ∀ a0 a1 a2 k, LeO (agoralaw04_GroupRing.f k a0 a1 a2) (agoralaw04_GroupRing.f (k + 1) a0 a1 a2) := by
  intro a0 a1 a2 k
  unfold agoralaw04_GroupRing.f
  repeat' first
      | (with_reducible exact agoralaw04_small.mono _)
      | (with_reducible exact group_MulN.mono _ _ _)
      | (with_reducible exact LeO.refl _)
      | (with_reducible exact LeO.none _)
      | (with_reducible refine LeO.ite ?_ ?_)
      | (with_reducible refine LeO.bind ?_ (fun _ => ?_))
      | exact agoralaw04_small.mono _
      | exact group_MulN.mono _ _ _
      | exact LeO.none _
      | refine LeO.ite ?_ ?_
      | refine LeO.bind ?_ (fun _ => ?_)
set_option maxHeartbeats 8000000 in
set_option maxRecDepth 100000 in
theorem agoralaw04_GroupRing.calls (k : Nat) (a0 : Int) (a1 : Int) (a2 : Int) (r : Bool) (w : World) (h : agoralaw04_GroupRing.f k a0 a1 a2 = some r) :
    Calls Try.prog 6 #[.int .i64 a0, .int .i64 a1, .int .i64 a2] w fun e w' => e = .returned (.bool r) ∧ Drawn0 w w' := by
  have H : ((agoralaw04_small.f k).bind fun t255 => ((group_AddN.f a0 0).bind fun t256 => ((group_AddN.f a1 0).bind fun t257 => ((agoralaw04_in.f t256 2305843009213693950).bind fun t258 => (if t258 = true then ((group_MulN.f k a0 1).bind fun t259 => (if t259 = t256 then ((group_AddN.f t256 2305843009213693950).bind fun t260 => (if t260 = t256 then ((group_SubN.f a0 a0).bind fun t261 => ((group_AddN.f a0 a1).bind fun t262 => ((group_AddN.f a1 a0).bind fun t263 => (if t262 = t263 then ((group_MulN.f k a0 a1).bind fun t264 => ((group_MulN.f k a1 a0).bind fun t265 => (if t264 = t265 then ((group_AddN.f a0 a1).bind fun t266 => ((group_SubN.f t266 a1).bind fun t267 => ((group_AddN.f t266 a2).bind fun t268 => ((group_AddN.f a1 a2).bind fun t269 => ((group_AddN.f a0 t269).bind fun t270 => (if t268 = t270 then ((group_MulN.f k t264 a2).bind fun t271 => ((group_MulN.f k a1 a2).bind fun t272 => ((group_MulN.f k a0 t272).bind fun t273 => ((group_AddN.f a1 a2).bind fun t274 => ((group_MulN.f k a0 t274).bind fun t275 => ((group_MulN.f k a0 a2).bind fun t276 => ((group_AddN.f t264 t276).bind fun t277 => ((group_MulN.f k t256 t257).bind fun t278 => (if t278 = t264 then ((group_AddN.f t256 t257).bind fun t279 => (if t279 = t266 then ((group_SubN.f t256 t257).bind fun t280 => ((group_SubN.f a0 a1).bind fun t281 => (if t255 = true then (if t261 = 0 then (if t267 = t256 then (if t271 = t273 then (if t275 = t277 then (some (t280 == t281)) else (none)) else (none)) else (none)) else (none)) else (none)))) else (none))) else (none)))))))))) else (none))))))) else (none)))) else (none))))) else (none))) else (none))) else (none)))))) = some r := h
  clear h
  replace H := Option.bind_eq_some_iff.mp H
  obtain ⟨t255, A40, H⟩ := H
  replace H : ((group_AddN.f a0 0).bind fun t256 => ((group_AddN.f a1 0).bind fun t257 => ((agoralaw04_in.f t256 2305843009213693950).bind fun t258 => (if t258 = true then ((group_MulN.f k a0 1).bind fun t259 => (if t259 = t256 then ((group_AddN.f t256 2305843009213693950).bind fun t260 => (if t260 = t256 then ((group_SubN.f a0 a0).bind fun t261 => ((group_AddN.f a0 a1).bind fun t262 => ((group_AddN.f a1 a0).bind fun t263 => (if t262 = t263 then ((group_MulN.f k a0 a1).bind fun t264 => ((group_MulN.f k a1 a0).bind fun t265 => (if t264 = t265 then ((group_AddN.f a0 a1).bind fun t266 => ((group_SubN.f t266 a1).bind fun t267 => ((group_AddN.f t266 a2).bind fun t268 => ((group_AddN.f a1 a2).bind fun t269 => ((group_AddN.f a0 t269).bind fun t270 => (if t268 = t270 then ((group_MulN.f k t264 a2).bind fun t271 => ((group_MulN.f k a1 a2).bind fun t272 => ((group_MulN.f k a0 t272).bind fun t273 => ((group_AddN.f a1 a2).bind fun t274 => ((group_MulN.f k a0 t274).bind fun t275 => ((group_MulN.f k a0 a2).bind fun t276 => ((group_AddN.f t264 t276).bind fun t277 => ((group_MulN.f k t256 t257).bind fun t278 => (if t278 = t264 then ((group_AddN.f t256 t257).bind fun t279 => (if t279 = t266 then ((group_SubN.f t256 t257).bind fun t280 => ((group_SubN.f a0 a1).bind fun t281 => (if t255 = true then (if t261 = 0 then (if t267 = t256 then (if t271 = t273 then (if t275 = t277 then (some (t280 == t281)) else (none)) else (none)) else (none)) else (none)) else (none)))) else (none))) else (none)))))))))) else (none))))))) else (none)))) else (none))))) else (none))) else (none))) else (none))))) = some r := H
  have A4 := Aside0.mk A40
  clear A40
  replace H := Option.bind_eq_some_iff.mp H
  obtain ⟨t256, A50, H⟩ := H
  replace H : ((group_AddN.f a1 0).bind fun t257 => ((agoralaw04_in.f t256 2305843009213693950).bind fun t258 => (if t258 = true then ((group_MulN.f k a0 1).bind fun t259 => (if t259 = t256 then ((group_AddN.f t256 2305843009213693950).bind fun t260 => (if t260 = t256 then ((group_SubN.f a0 a0).bind fun t261 => ((group_AddN.f a0 a1).bind fun t262 => ((group_AddN.f a1 a0).bind fun t263 => (if t262 = t263 then ((group_MulN.f k a0 a1).bind fun t264 => ((group_MulN.f k a1 a0).bind fun t265 => (if t264 = t265 then ((group_AddN.f a0 a1).bind fun t266 => ((group_SubN.f t266 a1).bind fun t267 => ((group_AddN.f t266 a2).bind fun t268 => ((group_AddN.f a1 a2).bind fun t269 => ((group_AddN.f a0 t269).bind fun t270 => (if t268 = t270 then ((group_MulN.f k t264 a2).bind fun t271 => ((group_MulN.f k a1 a2).bind fun t272 => ((group_MulN.f k a0 t272).bind fun t273 => ((group_AddN.f a1 a2).bind fun t274 => ((group_MulN.f k a0 t274).bind fun t275 => ((group_MulN.f k a0 a2).bind fun t276 => ((group_AddN.f t264 t276).bind fun t277 => ((group_MulN.f k t256 t257).bind fun t278 => (if t278 = t264 then ((group_AddN.f t256 t257).bind fun t279 => (if t279 = t266 then ((group_SubN.f t256 t257).bind fun t280 => ((group_SubN.f a0 a1).bind fun t281 => (if t255 = true then (if t261 = 0 then (if t267 = t256 then (if t271 = t273 then (if t275 = t277 then (some (t280 == t281)) else (none)) else (none)) else (none)) else (none)) else (none)))) else (none))) else (none)))))))))) else (none))))))) else (none)))) else (none))))) else (none))) else (none))) else (none)))) = some r := H
  have A5 := Aside0.mk A50
  clear A50
  replace H := Option.bind_eq_some_iff.mp H
  obtain ⟨t257, A60, H⟩ := H
  replace H : ((agoralaw04_in.f t256 2305843009213693950).bind fun t258 => (if t258 = true then ((group_MulN.f k a0 1).bind fun t259 => (if t259 = t256 then ((group_AddN.f t256 2305843009213693950).bind fun t260 => (if t260 = t256 then ((group_SubN.f a0 a0).bind fun t261 => ((group_AddN.f a0 a1).bind fun t262 => ((group_AddN.f a1 a0).bind fun t263 => (if t262 = t263 then ((group_MulN.f k a0 a1).bind fun t264 => ((group_MulN.f k a1 a0).bind fun t265 => (if t264 = t265 then ((group_AddN.f a0 a1).bind fun t266 => ((group_SubN.f t266 a1).bind fun t267 => ((group_AddN.f t266 a2).bind fun t268 => ((group_AddN.f a1 a2).bind fun t269 => ((group_AddN.f a0 t269).bind fun t270 => (if t268 = t270 then ((group_MulN.f k t264 a2).bind fun t271 => ((group_MulN.f k a1 a2).bind fun t272 => ((group_MulN.f k a0 t272).bind fun t273 => ((group_AddN.f a1 a2).bind fun t274 => ((group_MulN.f k a0 t274).bind fun t275 => ((group_MulN.f k a0 a2).bind fun t276 => ((group_AddN.f t264 t276).bind fun t277 => ((group_MulN.f k t256 t257).bind fun t278 => (if t278 = t264 then ((group_AddN.f t256 t257).bind fun t279 => (if t279 = t266 then ((group_SubN.f t256 t257).bind fun t280 => ((group_SubN.f a0 a1).bind fun t281 => (if t255 = true then (if t261 = 0 then (if t267 = t256 then (if t271 = t273 then (if t275 = t277 then (some (t280 == t281)) else (none)) else (none)) else (none)) else (none)) else (none)))) else (none))) else (none)))))))))) else (none))))))) else (none)))) else (none))))) else (none))) else (none))) else (none))) = some r := H
  have A6 := Aside0.mk A60
  clear A60
  replace H := Option.bind_eq_some_iff.mp H
  obtain ⟨t258, A70, H⟩ := H
  replace H : (if t258 = true then ((group_MulN.f k a0 1).bind fun t259 => (if t259 = t256 then ((group_AddN.f t256 2305843009213693950).bind fun t260 => (if t260 = t256 then ((group_SubN.f a0 a0).bind fun t261 => ((group_AddN.f a0 a1).bind fun t262 => ((group_AddN.f a1 a0).bind fun t263 => (if t262 = t263 then ((group_MulN.f k a0 a1).bind fun t264 => ((group_MulN.f k a1 a0).bind fun t265 => (if t264 = t265 then ((group_AddN.f a0 a1).bind fun t266 => ((group_SubN.f t266 a1).bind fun t267 => ((group_AddN.f t266 a2).bind fun t268 => ((group_AddN.f a1 a2).bind fun t269 => ((group_AddN.f a0 t269).bind fun t270 => (if t268 = t270 then ((group_MulN.f k t264 a2).bind fun t271 => ((group_MulN.f k a1 a2).bind fun t272 => ((group_MulN.f k a0 t272).bind fun t273 => ((group_AddN.f a1 a2).bind fun t274 => ((group_MulN.f k a0 t274).bind fun t275 => ((group_MulN.f k a0 a2).bind fun t276 => ((group_AddN.f t264 t276).bind fun t277 => ((group_MulN.f k t256 t257).bind fun t278 => (if t278 = t264 then ((group_AddN.f t256 t257).bind fun t279 => (if t279 = t266 then ((group_SubN.f t256 t257).bind fun t280 => ((group_SubN.f a0 a1).bind fun t281 => (if t255 = true then (if t261 = 0 then (if t267 = t256 then (if t271 = t273 then (if t275 = t277 then (some (t280 == t281)) else (none)) else (none)) else (none)) else (none)) else (none)))) else (none))) else (none)))))))))) else (none))))))) else (none)))) else (none))))) else (none))) else (none))) else (none)) = some r := H
  have A7 := Aside0.mk A70
  clear A70
  by_cases c8 : t258 = true
  · subst c8
    have H1 : ((group_MulN.f k a0 1).bind fun t259 => (if t259 = t256 then ((group_AddN.f t256 2305843009213693950).bind fun t260 => (if t260 = t256 then ((group_SubN.f a0 a0).bind fun t261 => ((group_AddN.f a0 a1).bind fun t262 => ((group_AddN.f a1 a0).bind fun t263 => (if t262 = t263 then ((group_MulN.f k a0 a1).bind fun t264 => ((group_MulN.f k a1 a0).bind fun t265 => (if t264 = t265 then ((group_AddN.f a0 a1).bind fun t266 => ((group_SubN.f t266 a1).bind fun t267 => ((group_AddN.f t266 a2).bind fun t268 => ((group_AddN.f a1 a2).bind fun t269 => ((group_AddN.f a0 t269).bind fun t270 => (if t268 = t270 then ((group_MulN.f k t264 a2).bind fun t271 => ((group_MulN.f k a1 a2).bind fun t272 => ((group_MulN.f k a0 t272).bind fun t273 => ((group_AddN.f a1 a2).bind fun t274 => ((group_MulN.f k a0 t274).bind fun t275 => ((group_MulN.f k a0 a2).bind fun t276 => ((group_AddN.f t264 t276).bind fun t277 => ((group_MulN.f k t256 t257).bind fun t278 => (if t278 = t264 then ((group_AddN.f t256 t257).bind fun t279 => (if t279 = t266 then ((group_SubN.f t256 t257).bind fun t280 => ((group_SubN.f a0 a1).bind fun t281 => (if t255 = true then (if t261 = 0 then (if t267 = t256 then (if t271 = t273 then (if t275 = t277 then (some (t280 == t281)) else (none)) else (none)) else (none)) else (none)) else (none)))) else (none))) else (none)))))))))) else (none))))))) else (none)))) else (none))))) else (none))) else (none))) = some r := by rw [if_pos rfl] at H; exact H
    clear H
    have H := H1
    clear H1
    replace H := Option.bind_eq_some_iff.mp H
    obtain ⟨t259, A90, H⟩ := H
    replace H : (if t259 = t256 then ((group_AddN.f t256 2305843009213693950).bind fun t260 => (if t260 = t256 then ((group_SubN.f a0 a0).bind fun t261 => ((group_AddN.f a0 a1).bind fun t262 => ((group_AddN.f a1 a0).bind fun t263 => (if t262 = t263 then ((group_MulN.f k a0 a1).bind fun t264 => ((group_MulN.f k a1 a0).bind fun t265 => (if t264 = t265 then ((group_AddN.f a0 a1).bind fun t266 => ((group_SubN.f t266 a1).bind fun t267 => ((group_AddN.f t266 a2).bind fun t268 => ((group_AddN.f a1 a2).bind fun t269 => ((group_AddN.f a0 t269).bind fun t270 => (if t268 = t270 then ((group_MulN.f k t264 a2).bind fun t271 => ((group_MulN.f k a1 a2).bind fun t272 => ((group_MulN.f k a0 t272).bind fun t273 => ((group_AddN.f a1 a2).bind fun t274 => ((group_MulN.f k a0 t274).bind fun t275 => ((group_MulN.f k a0 a2).bind fun t276 => ((group_AddN.f t264 t276).bind fun t277 => ((group_MulN.f k t256 t257).bind fun t278 => (if t278 = t264 then ((group_AddN.f t256 t257).bind fun t279 => (if t279 = t266 then ((group_SubN.f t256 t257).bind fun t280 => ((group_SubN.f a0 a1).bind fun t281 => (if t255 = true then (if t261 = 0 then (if t267 = t256 then (if t271 = t273 then (if t275 = t277 then (some (t280 == t281)) else (none)) else (none)) else (none)) else (none)) else (none)))) else (none))) else (none)))))))))) else (none))))))) else (none)))) else (none))))) else (none))) else (none)) = some r := H
    have A9 := Aside0.mk A90
    clear A90
    by_cases c10 : t259 = t256
    · rw [if_pos c10] at H
      have c10b0 : (t259 == t256) = true := beq_iff_eq.mpr c10
      have c10b1 : (t259 != t256) = false := bne_eq_false_iff_eq.mpr c10
      clear c10
      replace H := Option.bind_eq_some_iff.mp H
      obtain ⟨t260, A110, H⟩ := H
      replace H : (if t260 = t256 then ((group_SubN.f a0 a0).bind fun t261 => ((group_AddN.f a0 a1).bind fun t262 => ((group_AddN.f a1 a0).bind fun t263 => (if t262 = t263 then ((group_MulN.f k a0 a1).bind fun t264 => ((group_MulN.f k a1 a0).bind fun t265 => (if t264 = t265 then ((group_AddN.f a0 a1).bind fun t266 => ((group_SubN.f t266 a1).bind fun t267 => ((group_AddN.f t266 a2).bind fun t268 => ((group_AddN.f a1 a2).bind fun t269 => ((group_AddN.f a0 t269).bind fun t270 => (if t268 = t270 then ((group_MulN.f k t264 a2).bind fun t271 => ((group_MulN.f k a1 a2).bind fun t272 => ((group_MulN.f k a0 t272).bind fun t273 => ((group_AddN.f a1 a2).bind fun t274 => ((group_MulN.f k a0 t274).bind fun t275 => ((group_MulN.f k a0 a2).bind fun t276 => ((group_AddN.f t264 t276).bind fun t277 => ((group_MulN.f k t256 t257).bind fun t278 => (if t278 = t264 then ((group_AddN.f t256 t257).bind fun t279 => (if t279 = t266 then ((group_SubN.f t256 t257).bind fun t280 => ((group_SubN.f a0 a1).bind fun t281 => (if t255 = true then (if t261 = 0 then (if t267 = t256 then (if t271 = t273 then (if t275 = t277 then (some (t280 == t281)) else (none)) else (none)) else (none)) else (none)) else (none)))) else (none))) else (none)))))))))) else (none))))))) else (none)))) else (none))))) else (none)) = some r := H
      have A11 := Aside0.mk A110
      clear A110
      by_cases c12 : t260 = t256
      · rw [if_pos c12] at H
        have c12b0 : (t260 == t256) = true := beq_iff_eq.mpr c12
        have c12b1 : (t260 != t256) = false := bne_eq_false_iff_eq.mpr c12
        clear c12
        replace H := Option.bind_eq_some_iff.mp H
        obtain ⟨t261, A130, H⟩ := H
        replace H : ((group_AddN.f a0 a1).bind fun t262 => ((group_AddN.f a1 a0).bind fun t263 => (if t262 = t263 then ((group_MulN.f k a0 a1).bind fun t264 => ((group_MulN.f k a1 a0).bind fun t265 => (if t264 = t265 then ((group_AddN.f a0 a1).bind fun t266 => ((group_SubN.f t266 a1).bind fun t267 => ((group_AddN.f t266 a2).bind fun t268 => ((group_AddN.f a1 a2).bind fun t269 => ((group_AddN.f a0 t269).bind fun t270 => (if t268 = t270 then ((group_MulN.f k t264 a2).bind fun t271 => ((group_MulN.f k a1 a2).bind fun t272 => ((group_MulN.f k a0 t272).bind fun t273 => ((group_AddN.f a1 a2).bind fun t274 => ((group_MulN.f k a0 t274).bind fun t275 => ((group_MulN.f k a0 a2).bind fun t276 => ((group_AddN.f t264 t276).bind fun t277 => ((group_MulN.f k t256 t257).bind fun t278 => (if t278 = t264 then ((group_AddN.f t256 t257).bind fun t279 => (if t279 = t266 then ((group_SubN.f t256 t257).bind fun t280 => ((group_SubN.f a0 a1).bind fun t281 => (if t255 = true then (if t261 = 0 then (if t267 = t256 then (if t271 = t273 then (if t275 = t277 then (some (t280 == t281)) else (none)) else (none)) else (none)) else (none)) else (none)))) else (none))) else (none)))))))))) else (none))))))) else (none)))) else (none)))) = some r := H
        have A13 := Aside0.mk A130
        clear A130
        replace H := Option.bind_eq_some_iff.mp H
        obtain ⟨t262, A140, H⟩ := H
        replace H : ((group_AddN.f a1 a0).bind fun t263 => (if t262 = t263 then ((group_MulN.f k a0 a1).bind fun t264 => ((group_MulN.f k a1 a0).bind fun t265 => (if t264 = t265 then ((group_AddN.f a0 a1).bind fun t266 => ((group_SubN.f t266 a1).bind fun t267 => ((group_AddN.f t266 a2).bind fun t268 => ((group_AddN.f a1 a2).bind fun t269 => ((group_AddN.f a0 t269).bind fun t270 => (if t268 = t270 then ((group_MulN.f k t264 a2).bind fun t271 => ((group_MulN.f k a1 a2).bind fun t272 => ((group_MulN.f k a0 t272).bind fun t273 => ((group_AddN.f a1 a2).bind fun t274 => ((group_MulN.f k a0 t274).bind fun t275 => ((group_MulN.f k a0 a2).bind fun t276 => ((group_AddN.f t264 t276).bind fun t277 => ((group_MulN.f k t256 t257).bind fun t278 => (if t278 = t264 then ((group_AddN.f t256 t257).bind fun t279 => (if t279 = t266 then ((group_SubN.f t256 t257).bind fun t280 => ((group_SubN.f a0 a1).bind fun t281 => (if t255 = true then (if t261 = 0 then (if t267 = t256 then (if t271 = t273 then (if t275 = t277 then (some (t280 == t281)) else (none)) else (none)) else (none)) else (none)) else (none)))) else (none))) else (none)))))))))) else (none))))))) else (none)))) else (none))) = some r := H
        have A14 := Aside0.mk A140
        clear A140
        replace H := Option.bind_eq_some_iff.mp H
        obtain ⟨t263, A150, H⟩ := H
        replace H : (if t262 = t263 then ((group_MulN.f k a0 a1).bind fun t264 => ((group_MulN.f k a1 a0).bind fun t265 => (if t264 = t265 then ((group_AddN.f a0 a1).bind fun t266 => ((group_SubN.f t266 a1).bind fun t267 => ((group_AddN.f t266 a2).bind fun t268 => ((group_AddN.f a1 a2).bind fun t269 => ((group_AddN.f a0 t269).bind fun t270 => (if t268 = t270 then ((group_MulN.f k t264 a2).bind fun t271 => ((group_MulN.f k a1 a2).bind fun t272 => ((group_MulN.f k a0 t272).bind fun t273 => ((group_AddN.f a1 a2).bind fun t274 => ((group_MulN.f k a0 t274).bind fun t275 => ((group_MulN.f k a0 a2).bind fun t276 => ((group_AddN.f t264 t276).bind fun t277 => ((group_MulN.f k t256 t257).bind fun t278 => (if t278 = t264 then ((group_AddN.f t256 t257).bind fun t279 => (if t279 = t266 then ((group_SubN.f t256 t257).bind fun t280 => ((group_SubN.f a0 a1).bind fun t281 => (if t255 = true then (if t261 = 0 then (if t267 = t256 then (if t271 = t273 then (if t275 = t277 then (some (t280 == t281)) else (none)) else (none)) else (none)) else (none)) else (none)))) else (none))) else (none)))))))))) else (none))))))) else (none)))) else (none)) = some r := H
        have A15 := Aside0.mk A150
        clear A150
        by_cases c16 : t262 = t263
        · rw [if_pos c16] at H
          have c16b0 : (t262 == t263) = true := beq_iff_eq.mpr c16
          have c16b1 : (t262 != t263) = false := bne_eq_false_iff_eq.mpr c16
          clear c16
          replace H := Option.bind_eq_some_iff.mp H
          obtain ⟨t264, A170, H⟩ := H
          replace H : ((group_MulN.f k a1 a0).bind fun t265 => (if t264 = t265 then ((group_AddN.f a0 a1).bind fun t266 => ((group_SubN.f t266 a1).bind fun t267 => ((group_AddN.f t266 a2).bind fun t268 => ((group_AddN.f a1 a2).bind fun t269 => ((group_AddN.f a0 t269).bind fun t270 => (if t268 = t270 then ((group_MulN.f k t264 a2).bind fun t271 => ((group_MulN.f k a1 a2).bind fun t272 => ((group_MulN.f k a0 t272).bind fun t273 => ((group_AddN.f a1 a2).bind fun t274 => ((group_MulN.f k a0 t274).bind fun t275 => ((group_MulN.f k a0 a2).bind fun t276 => ((group_AddN.f t264 t276).bind fun t277 => ((group_MulN.f k t256 t257).bind fun t278 => (if t278 = t264 then ((group_AddN.f t256 t257).bind fun t279 => (if t279 = t266 then ((group_SubN.f t256 t257).bind fun t280 => ((group_SubN.f a0 a1).bind fun t281 => (if t255 = true then (if t261 = 0 then (if t267 = t256 then (if t271 = t273 then (if t275 = t277 then (some (t280 == t281)) else (none)) else (none)) else (none)) else (none)) else (none)))) else (none))) else (none)))))))))) else (none))))))) else (none))) = some r := H
          have A17 := Aside0.mk A170
          clear A170
          replace H := Option.bind_eq_some_iff.mp H
          obtain ⟨t265, A180, H⟩ := H
          replace H : (if t264 = t265 then ((group_AddN.f a0 a1).bind fun t266 => ((group_SubN.f t266 a1).bind fun t267 => ((group_AddN.f t266 a2).bind fun t268 => ((group_AddN.f a1 a2).bind fun t269 => ((group_AddN.f a0 t269).bind fun t270 => (if t268 = t270 then ((group_MulN.f k t264 a2).bind fun t271 => ((group_MulN.f k a1 a2).bind fun t272 => ((group_MulN.f k a0 t272).bind fun t273 => ((group_AddN.f a1 a2).bind fun t274 => ((group_MulN.f k a0 t274).bind fun t275 => ((group_MulN.f k a0 a2).bind fun t276 => ((group_AddN.f t264 t276).bind fun t277 => ((group_MulN.f k t256 t257).bind fun t278 => (if t278 = t264 then ((group_AddN.f t256 t257).bind fun t279 => (if t279 = t266 then ((group_SubN.f t256 t257).bind fun t280 => ((group_SubN.f a0 a1).bind fun t281 => (if t255 = true then (if t261 = 0 then (if t267 = t256 then (if t271 = t273 then (if t275 = t277 then (some (t280 == t281)) else (none)) else (none)) else (none)) else (none)) else (none)))) else (none))) else (none)))))))))) else (none))))))) else (none)) = some r := H
          have A18 := Aside0.mk A180
          clear A180
          by_cases c19 : t264 = t265
          · rw [if_pos c19] at H
            have c19b0 : (t264 == t265) = true := beq_iff_eq.mpr c19
            have c19b1 : (t264 != t265) = false := bne_eq_false_iff_eq.mpr c19
            clear c19
            replace H := Option.bind_eq_some_iff.mp H
            obtain ⟨t266, A200, H⟩ := H
            replace H : ((group_SubN.f t266 a1).bind fun t267 => ((group_AddN.f t266 a2).bind fun t268 => ((group_AddN.f a1 a2).bind fun t269 => ((group_AddN.f a0 t269).bind fun t270 => (if t268 = t270 then ((group_MulN.f k t264 a2).bind fun t271 => ((group_MulN.f k a1 a2).bind fun t272 => ((group_MulN.f k a0 t272).bind fun t273 => ((group_AddN.f a1 a2).bind fun t274 => ((group_MulN.f k a0 t274).bind fun t275 => ((group_MulN.f k a0 a2).bind fun t276 => ((group_AddN.f t264 t276).bind fun t277 => ((group_MulN.f k t256 t257).bind fun t278 => (if t278 = t264 then ((group_AddN.f t256 t257).bind fun t279 => (if t279 = t266 then ((group_SubN.f t256 t257).bind fun t280 => ((group_SubN.f a0 a1).bind fun t281 => (if t255 = true then (if t261 = 0 then (if t267 = t256 then (if t271 = t273 then (if t275 = t277 then (some (t280 == t281)) else (none)) else (none)) else (none)) else (none)) else (none)))) else (none))) else (none)))))))))) else (none)))))) = some r := H
            have A20 := Aside0.mk A200
            clear A200
            replace H := Option.bind_eq_some_iff.mp H
            obtain ⟨t267, A210, H⟩ := H
            replace H : ((group_AddN.f t266 a2).bind fun t268 => ((group_AddN.f a1 a2).bind fun t269 => ((group_AddN.f a0 t269).bind fun t270 => (if t268 = t270 then ((group_MulN.f k t264 a2).bind fun t271 => ((group_MulN.f k a1 a2).bind fun t272 => ((group_MulN.f k a0 t272).bind fun t273 => ((group_AddN.f a1 a2).bind fun t274 => ((group_MulN.f k a0 t274).bind fun t275 => ((group_MulN.f k a0 a2).bind fun t276 => ((group_AddN.f t264 t276).bind fun t277 => ((group_MulN.f k t256 t257).bind fun t278 => (if t278 = t264 then ((group_AddN.f t256 t257).bind fun t279 => (if t279 = t266 then ((group_SubN.f t256 t257).bind fun t280 => ((group_SubN.f a0 a1).bind fun t281 => (if t255 = true then (if t261 = 0 then (if t267 = t256 then (if t271 = t273 then (if t275 = t277 then (some (t280 == t281)) else (none)) else (none)) else (none)) else (none)) else (none)))) else (none))) else (none)))))))))) else (none))))) = some r := H
            have A21 := Aside0.mk A210
            clear A210
            replace H := Option.bind_eq_some_iff.mp H
            obtain ⟨t268, A220, H⟩ := H
            replace H : ((group_AddN.f a1 a2).bind fun t269 => ((group_AddN.f a0 t269).bind fun t270 => (if t268 = t270 then ((group_MulN.f k t264 a2).bind fun t271 => ((group_MulN.f k a1 a2).bind fun t272 => ((group_MulN.f k a0 t272).bind fun t273 => ((group_AddN.f a1 a2).bind fun t274 => ((group_MulN.f k a0 t274).bind fun t275 => ((group_MulN.f k a0 a2).bind fun t276 => ((group_AddN.f t264 t276).bind fun t277 => ((group_MulN.f k t256 t257).bind fun t278 => (if t278 = t264 then ((group_AddN.f t256 t257).bind fun t279 => (if t279 = t266 then ((group_SubN.f t256 t257).bind fun t280 => ((group_SubN.f a0 a1).bind fun t281 => (if t255 = true then (if t261 = 0 then (if t267 = t256 then (if t271 = t273 then (if t275 = t277 then (some (t280 == t281)) else (none)) else (none)) else (none)) else (none)) else (none)))) else (none))) else (none)))))))))) else (none)))) = some r := H
            have A22 := Aside0.mk A220
            clear A220
            replace H := Option.bind_eq_some_iff.mp H
            obtain ⟨t269, A230, H⟩ := H
            replace H : ((group_AddN.f a0 t269).bind fun t270 => (if t268 = t270 then ((group_MulN.f k t264 a2).bind fun t271 => ((group_MulN.f k a1 a2).bind fun t272 => ((group_MulN.f k a0 t272).bind fun t273 => ((group_AddN.f a1 a2).bind fun t274 => ((group_MulN.f k a0 t274).bind fun t275 => ((group_MulN.f k a0 a2).bind fun t276 => ((group_AddN.f t264 t276).bind fun t277 => ((group_MulN.f k t256 t257).bind fun t278 => (if t278 = t264 then ((group_AddN.f t256 t257).bind fun t279 => (if t279 = t266 then ((group_SubN.f t256 t257).bind fun t280 => ((group_SubN.f a0 a1).bind fun t281 => (if t255 = true then (if t261 = 0 then (if t267 = t256 then (if t271 = t273 then (if t275 = t277 then (some (t280 == t281)) else (none)) else (none)) else (none)) else (none)) else (none)))) else (none))) else (none)))))))))) else (none))) = some r := H
            have A23 := Aside0.mk A230
            clear A230
            replace H := Option.bind_eq_some_iff.mp H
            obtain ⟨t270, A240, H⟩ := H
            replace H : (if t268 = t270 then ((group_MulN.f k t264 a2).bind fun t271 => ((group_MulN.f k a1 a2).bind fun t272 => ((group_MulN.f k a0 t272).bind fun t273 => ((group_AddN.f a1 a2).bind fun t274 => ((group_MulN.f k a0 t274).bind fun t275 => ((group_MulN.f k a0 a2).bind fun t276 => ((group_AddN.f t264 t276).bind fun t277 => ((group_MulN.f k t256 t257).bind fun t278 => (if t278 = t264 then ((group_AddN.f t256 t257).bind fun t279 => (if t279 = t266 then ((group_SubN.f t256 t257).bind fun t280 => ((group_SubN.f a0 a1).bind fun t281 => (if t255 = true then (if t261 = 0 then (if t267 = t256 then (if t271 = t273 then (if t275 = t277 then (some (t280 == t281)) else (none)) else (none)) else (none)) else (none)) else (none)))) else (none))) else (none)))))))))) else (none)) = some r := H
            have A24 := Aside0.mk A240
            clear A240
            by_cases c25 : t268 = t270
            · rw [if_pos c25] at H
              have c25b0 : (t268 == t270) = true := beq_iff_eq.mpr c25
              have c25b1 : (t268 != t270) = false := bne_eq_false_iff_eq.mpr c25
              clear c25
              replace H := Option.bind_eq_some_iff.mp H
              obtain ⟨t271, A260, H⟩ := H
              replace H : ((group_MulN.f k a1 a2).bind fun t272 => ((group_MulN.f k a0 t272).bind fun t273 => ((group_AddN.f a1 a2).bind fun t274 => ((group_MulN.f k a0 t274).bind fun t275 => ((group_MulN.f k a0 a2).bind fun t276 => ((group_AddN.f t264 t276).bind fun t277 => ((group_MulN.f k t256 t257).bind fun t278 => (if t278 = t264 then ((group_AddN.f t256 t257).bind fun t279 => (if t279 = t266 then ((group_SubN.f t256 t257).bind fun t280 => ((group_SubN.f a0 a1).bind fun t281 => (if t255 = true then (if t261 = 0 then (if t267 = t256 then (if t271 = t273 then (if t275 = t277 then (some (t280 == t281)) else (none)) else (none)) else (none)) else (none)) else (none)))) else (none))) else (none))))))))) = some r := H
              have A26 := Aside0.mk A260
              clear A260
              replace H := Option.bind_eq_some_iff.mp H
              obtain ⟨t272, A270, H⟩ := H
              replace H : ((group_MulN.f k a0 t272).bind fun t273 => ((group_AddN.f a1 a2).bind fun t274 => ((group_MulN.f k a0 t274).bind fun t275 => ((group_MulN.f k a0 a2).bind fun t276 => ((group_AddN.f t264 t276).bind fun t277 => ((group_MulN.f k t256 t257).bind fun t278 => (if t278 = t264 then ((group_AddN.f t256 t257).bind fun t279 => (if t279 = t266 then ((group_SubN.f t256 t257).bind fun t280 => ((group_SubN.f a0 a1).bind fun t281 => (if t255 = true then (if t261 = 0 then (if t267 = t256 then (if t271 = t273 then (if t275 = t277 then (some (t280 == t281)) else (none)) else (none)) else (none)) else (none)) else (none)))) else (none))) else (none)))))))) = some r := H
              have A27 := Aside0.mk A270
              clear A270
              replace H := Option.bind_eq_some_iff.mp H
              obtain ⟨t273, A280, H⟩ := H
              replace H : ((group_AddN.f a1 a2).bind fun t274 => ((group_MulN.f k a0 t274).bind fun t275 => ((group_MulN.f k a0 a2).bind fun t276 => ((group_AddN.f t264 t276).bind fun t277 => ((group_MulN.f k t256 t257).bind fun t278 => (if t278 = t264 then ((group_AddN.f t256 t257).bind fun t279 => (if t279 = t266 then ((group_SubN.f t256 t257).bind fun t280 => ((group_SubN.f a0 a1).bind fun t281 => (if t255 = true then (if t261 = 0 then (if t267 = t256 then (if t271 = t273 then (if t275 = t277 then (some (t280 == t281)) else (none)) else (none)) else (none)) else (none)) else (none)))) else (none))) else (none))))))) = some r := H
              have A28 := Aside0.mk A280
              clear A280
              replace H := Option.bind_eq_some_iff.mp H
              obtain ⟨t274, A290, H⟩ := H
              replace H : ((group_MulN.f k a0 t274).bind fun t275 => ((group_MulN.f k a0 a2).bind fun t276 => ((group_AddN.f t264 t276).bind fun t277 => ((group_MulN.f k t256 t257).bind fun t278 => (if t278 = t264 then ((group_AddN.f t256 t257).bind fun t279 => (if t279 = t266 then ((group_SubN.f t256 t257).bind fun t280 => ((group_SubN.f a0 a1).bind fun t281 => (if t255 = true then (if t261 = 0 then (if t267 = t256 then (if t271 = t273 then (if t275 = t277 then (some (t280 == t281)) else (none)) else (none)) else (none)) else (none)) else (none)))) else (none))) else (none)))))) = some r := H
              have A29 := Aside0.mk A290
              clear A290
              replace H := Option.bind_eq_some_iff.mp H
              obtain ⟨t275, A300, H⟩ := H
              replace H : ((group_MulN.f k a0 a2).bind fun t276 => ((group_AddN.f t264 t276).bind fun t277 => ((group_MulN.f k t256 t257).bind fun t278 => (if t278 = t264 then ((group_AddN.f t256 t257).bind fun t279 => (if t279 = t266 then ((group_SubN.f t256 t257).bind fun t280 => ((group_SubN.f a0 a1).bind fun t281 => (if t255 = true then (if t261 = 0 then (if t267 = t256 then (if t271 = t273 then (if t275 = t277 then (some (t280 == t281)) else (none)) else (none)) else (none)) else (none)) else (none)))) else (none))) else (none))))) = some r := H
              have A30 := Aside0.mk A300
              clear A300
              replace H := Option.bind_eq_some_iff.mp H
              obtain ⟨t276, A310, H⟩ := H
              replace H : ((group_AddN.f t264 t276).bind fun t277 => ((group_MulN.f k t256 t257).bind fun t278 => (if t278 = t264 then ((group_AddN.f t256 t257).bind fun t279 => (if t279 = t266 then ((group_SubN.f t256 t257).bind fun t280 => ((group_SubN.f a0 a1).bind fun t281 => (if t255 = true then (if t261 = 0 then (if t267 = t256 then (if t271 = t273 then (if t275 = t277 then (some (t280 == t281)) else (none)) else (none)) else (none)) else (none)) else (none)))) else (none))) else (none)))) = some r := H
              have A31 := Aside0.mk A310
              clear A310
              replace H := Option.bind_eq_some_iff.mp H
              obtain ⟨t277, A320, H⟩ := H
              replace H : ((group_MulN.f k t256 t257).bind fun t278 => (if t278 = t264 then ((group_AddN.f t256 t257).bind fun t279 => (if t279 = t266 then ((group_SubN.f t256 t257).bind fun t280 => ((group_SubN.f a0 a1).bind fun t281 => (if t255 = true then (if t261 = 0 then (if t267 = t256 then (if t271 = t273 then (if t275 = t277 then (some (t280 == t281)) else (none)) else (none)) else (none)) else (none)) else (none)))) else (none))) else (none))) = some r := H
              have A32 := Aside0.mk A320
              clear A320
              replace H := Option.bind_eq_some_iff.mp H
              obtain ⟨t278, A330, H⟩ := H
              replace H : (if t278 = t264 then ((group_AddN.f t256 t257).bind fun t279 => (if t279 = t266 then ((group_SubN.f t256 t257).bind fun t280 => ((group_SubN.f a0 a1).bind fun t281 => (if t255 = true then (if t261 = 0 then (if t267 = t256 then (if t271 = t273 then (if t275 = t277 then (some (t280 == t281)) else (none)) else (none)) else (none)) else (none)) else (none)))) else (none))) else (none)) = some r := H
              have A33 := Aside0.mk A330
              clear A330
              by_cases c34 : t278 = t264
              · rw [if_pos c34] at H
                have c34b0 : (t278 == t264) = true := beq_iff_eq.mpr c34
                have c34b1 : (t278 != t264) = false := bne_eq_false_iff_eq.mpr c34
                clear c34
                replace H := Option.bind_eq_some_iff.mp H
                obtain ⟨t279, A350, H⟩ := H
                replace H : (if t279 = t266 then ((group_SubN.f t256 t257).bind fun t280 => ((group_SubN.f a0 a1).bind fun t281 => (if t255 = true then (if t261 = 0 then (if t267 = t256 then (if t271 = t273 then (if t275 = t277 then (some (t280 == t281)) else (none)) else (none)) else (none)) else (none)) else (none)))) else (none)) = some r := H
                have A35 := Aside0.mk A350
                clear A350
                by_cases c36 : t279 = t266
                · rw [if_pos c36] at H
                  have c36b0 : (t279 == t266) = true := beq_iff_eq.mpr c36
                  have c36b1 : (t279 != t266) = false := bne_eq_false_iff_eq.mpr c36
                  clear c36
                  replace H := Option.bind_eq_some_iff.mp H
                  obtain ⟨t280, A370, H⟩ := H
                  replace H : ((group_SubN.f a0 a1).bind fun t281 => (if t255 = true then (if t261 = 0 then (if t267 = t256 then (if t271 = t273 then (if t275 = t277 then (some (t280 == t281)) else (none)) else (none)) else (none)) else (none)) else (none))) = some r := H
                  have A37 := Aside0.mk A370
                  clear A370
                  replace H := Option.bind_eq_some_iff.mp H
                  obtain ⟨t281, A380, H⟩ := H
                  replace H : (if t255 = true then (if t261 = 0 then (if t267 = t256 then (if t271 = t273 then (if t275 = t277 then (some (t280 == t281)) else (none)) else (none)) else (none)) else (none)) else (none)) = some r := H
                  have A38 := Aside0.mk A380
                  clear A380
                  by_cases c39 : t255 = true
                  · subst c39
                    have H1 : (if t261 = 0 then (if t267 = t256 then (if t271 = t273 then (if t275 = t277 then (some (t280 == t281)) else (none)) else (none)) else (none)) else (none)) = some r := by rw [if_pos rfl] at H; exact H
                    clear H
                    have H := H1
                    clear H1
                    by_cases c40 : t261 = 0
                    · rw [if_pos c40] at H
                      have c40b0 : (t261 == 0) = true := beq_iff_eq.mpr c40
                      have c40b1 : (t261 != 0) = false := bne_eq_false_iff_eq.mpr c40
                      clear c40
                      by_cases c41 : t267 = t256
                      · rw [if_pos c41] at H
                        have c41b0 : (t267 == t256) = true := beq_iff_eq.mpr c41
                        have c41b1 : (t267 != t256) = false := bne_eq_false_iff_eq.mpr c41
                        clear c41
                        by_cases c42 : t271 = t273
                        · rw [if_pos c42] at H
                          have c42b0 : (t271 == t273) = true := beq_iff_eq.mpr c42
                          have c42b1 : (t271 != t273) = false := bne_eq_false_iff_eq.mpr c42
                          clear c42
                          by_cases c43 : t275 = t277
                          · rw [if_pos c43] at H
                            have c43b0 : (t275 == t277) = true := beq_iff_eq.mpr c43
                            have c43b1 : (t275 != t277) = false := bne_eq_false_iff_eq.mpr c43
                            clear c43
                            obtain rfl := Option.some.inj H
                            go_enter Try.func6, Try.ntmps6
                            go_wp2_with (first | ((with_reducible refine gate_callee (f := 8) rfl ?_); refine goesL_ (some 15) rfl rfl Try.func8 (by kernel_rfl) rfl #[] rfl (by (try simp only [List.map_toArray, List.map_cons, List.map_nil]); first | done | rfl | (simp only [List.length_drop, List.length_take]; rfl)) ?_; (with_reducible refine (agoralaw04_small.calls k  true _ A4.out).mono ?_); rintro e w' ⟨rfl, ⟨nd, rfl⟩⟩; refine ⟨_, rfl, ?_⟩) | ((with_reducible refine gate_callee (f := 19) rfl ?_); refine goesL_ (some 17) rfl rfl Try.func19 (by kernel_rfl) rfl #[.int .i64 a0, .int .i64 0] rfl (by (try simp only [List.map_toArray, List.map_cons, List.map_nil]); first | done | rfl | (simp only [List.length_drop, List.length_take]; rfl)) ?_; (with_reducible refine (group_AddN.calls a0 0 t256 _ A5.out).mono ?_); rintro e w' ⟨rfl, ⟨nd, rfl⟩⟩; refine ⟨_, rfl, ?_⟩) | ((with_reducible refine gate_callee (f := 19) rfl ?_); refine goesL_ (some 19) rfl rfl Try.func19 (by kernel_rfl) rfl #[.int .i64 a1, .int .i64 0] rfl (by (try simp only [List.map_toArray, List.map_cons, List.map_nil]); first | done | rfl | (simp only [List.length_drop, List.length_take]; rfl)) ?_; (with_reducible refine (group_AddN.calls a1 0 t257 _ A6.out).mono ?_); rintro e w' ⟨rfl, ⟨nd, rfl⟩⟩; refine ⟨_, rfl, ?_⟩) | ((with_reducible refine gate_callee (f := 25) rfl ?_); refine goesL_ (some 21) rfl rfl Try.func25 (by kernel_rfl) rfl #[.int .i64 t256, .int .i64 2305843009213693950] rfl (by (try simp only [List.map_toArray, List.map_cons, List.map_nil]); first | done | rfl | (simp only [List.length_drop, List.length_take]; rfl)) ?_; (with_reducible refine (agoralaw04_in.calls t256 2305843009213693950 true _ A7.out).mono ?_); rintro e w' ⟨rfl, ⟨nd, rfl⟩⟩; refine ⟨_, rfl, ?_⟩) | (go_at_call 23; (with_reducible refine (group_MulN.calls k a0 1 t259 _ A9.out).mono ?_); rintro e w' ⟨rfl, ⟨nd, rfl⟩⟩) | (go_at_call 19; (with_reducible refine (group_AddN.calls t256 2305843009213693950 t260 _ A11.out).mono ?_); rintro e w' ⟨rfl, ⟨nd, rfl⟩⟩) | (go_at_call 21; (with_reducible refine (group_SubN.calls a0 a0 t261 _ A13.out).mono ?_); rintro e w' ⟨rfl, ⟨nd, rfl⟩⟩) | ((with_reducible refine gate_callee (f := 19) rfl ?_); refine goesL_ (some 42) rfl rfl Try.func19 (by kernel_rfl) rfl #[.int .i64 a0, .int .i64 a1] rfl (by (try simp only [List.map_toArray, List.map_cons, List.map_nil]); first | done | rfl | (simp only [List.length_drop, List.length_take]; rfl)) ?_; (with_reducible refine (group_AddN.calls a0 a1 t262 _ A14.out).mono ?_); rintro e w' ⟨rfl, ⟨nd, rfl⟩⟩; refine ⟨_, rfl, ?_⟩) | ((with_reducible refine gate_callee (f := 19) rfl ?_); refine goesL_ (some 45) rfl rfl Try.func19 (by kernel_rfl) rfl #[.int .i64 a1, .int .i64 a0] rfl (by (try simp only [List.map_toArray, List.map_cons, List.map_nil]); first | done | rfl | (simp only [List.length_drop, List.length_take]; rfl)) ?_; (with_reducible refine (group_AddN.calls a1 a0 t263 _ A15.out).mono ?_); rintro e w' ⟨rfl, ⟨nd, rfl⟩⟩; refine ⟨_, rfl, ?_⟩) | (go_at_call 23; (with_reducible refine (group_MulN.calls k a0 a1 t264 _ A17.out).mono ?_); rintro e w' ⟨rfl, ⟨nd, rfl⟩⟩) | (go_at_call 23; (with_reducible refine (group_MulN.calls k a1 a0 t265 _ A18.out).mono ?_); rintro e w' ⟨rfl, ⟨nd, rfl⟩⟩) | (go_at_call 19; (with_reducible refine (group_AddN.calls a0 a1 t266 _ A20.out).mono ?_); rintro e w' ⟨rfl, ⟨nd, rfl⟩⟩) | (go_at_call 21; (with_reducible refine (group_SubN.calls t266 a1 t267 _ A21.out).mono ?_); rintro e w' ⟨rfl, ⟨nd, rfl⟩⟩) | ((with_reducible refine gate_callee (f := 19) rfl ?_); refine goesL_ (some 69) rfl rfl Try.func19 (by kernel_rfl) rfl #[.int .i64 t266, .int .i64 a2] rfl (by (try simp only [List.map_toArray, List.map_cons, List.map_nil]); first | done | rfl | (simp only [List.length_drop, List.length_take]; rfl)) ?_; (with_reducible refine (group_AddN.calls t266 a2 t268 _ A22.out).mono ?_); rintro e w' ⟨rfl, ⟨nd, rfl⟩⟩; refine ⟨_, rfl, ?_⟩) | ((with_reducible refine gate_callee (f := 19) rfl ?_); refine goesL_ (some 73) rfl rfl Try.func19 (by kernel_rfl) rfl #[.int .i64 a1, .int .i64 a2] rfl (by (try simp only [List.map_toArray, List.map_cons, List.map_nil]); first | done | rfl | (simp only [List.length_drop, List.length_take]; rfl)) ?_; (with_reducible refine (group_AddN.calls a1 a2 t269 _ A23.out).mono ?_); rintro e w' ⟨rfl, ⟨nd, rfl⟩⟩; refine ⟨_, rfl, ?_⟩) | ((with_reducible refine gate_callee (f := 19) rfl ?_); refine goesL_ (some 74) rfl rfl Try.func19 (by kernel_rfl) rfl #[.int .i64 a0, .int .i64 t269] rfl (by (try simp only [List.map_toArray, List.map_cons, List.map_nil]); first | done | rfl | (simp only [List.length_drop, List.length_take]; rfl)) ?_; (with_reducible refine (group_AddN.calls a0 t269 t270 _ A24.out).mono ?_); rintro e w' ⟨rfl, ⟨nd, rfl⟩⟩; refine ⟨_, rfl, ?_⟩) | (go_at_call 23; (with_reducible refine (group_MulN.calls k t264 a2 t271 _ A26.out).mono ?_); rintro e w' ⟨rfl, ⟨nd, rfl⟩⟩) | (go_at_call 23; (with_reducible refine (group_MulN.calls k a1 a2 t272 _ A27.out).mono ?_); rintro e w' ⟨rfl, ⟨nd, rfl⟩⟩) | (go_at_call 23; (with_reducible refine (group_MulN.calls k a0 t272 t273 _ A28.out).mono ?_); rintro e w' ⟨rfl, ⟨nd, rfl⟩⟩) | ((with_reducible refine gate_callee (f := 19) rfl ?_); refine goesL_ (some 92) rfl rfl Try.func19 (by kernel_rfl) rfl #[.int .i64 a1, .int .i64 a2] rfl (by (try simp only [List.map_toArray, List.map_cons, List.map_nil]); first | done | rfl | (simp only [List.length_drop, List.length_take]; rfl)) ?_; (with_reducible refine (group_AddN.calls a1 a2 t274 _ A29.out).mono ?_); rintro e w' ⟨rfl, ⟨nd, rfl⟩⟩; refine ⟨_, rfl, ?_⟩) | ((with_reducible refine gate_callee (f := 23) rfl ?_); refine goesL_ (some 93) rfl rfl Try.func23 (by kernel_rfl) rfl #[.int .i64 a0, .int .i64 t274] rfl (by (try simp only [List.map_toArray, List.map_cons, List.map_nil]); first | done | rfl | (simp only [List.length_drop, List.length_take]; rfl)) ?_; (with_reducible refine (group_MulN.calls k a0 t274 t275 _ A30.out).mono ?_); rintro e w' ⟨rfl, ⟨nd, rfl⟩⟩; refine ⟨_, rfl, ?_⟩) | ((with_reducible refine gate_callee (f := 23) rfl ?_); refine goesL_ (some 99) rfl rfl Try.func23 (by kernel_rfl) rfl #[.int .i64 a0, .int .i64 a2] rfl (by (try simp only [List.map_toArray, List.map_cons, List.map_nil]); first | done | rfl | (simp only [List.length_drop, List.length_take]; rfl)) ?_; (with_reducible refine (group_MulN.calls k a0 a2 t276 _ A31.out).mono ?_); rintro e w' ⟨rfl, ⟨nd, rfl⟩⟩; refine ⟨_, rfl, ?_⟩) | ((with_reducible refine gate_callee (f := 19) rfl ?_); refine goesL_ (some 100) rfl rfl Try.func19 (by kernel_rfl) rfl #[.int .i64 t264, .int .i64 t276] rfl (by (try simp only [List.map_toArray, List.map_cons, List.map_nil]); first | done | rfl | (simp only [List.length_drop, List.length_take]; rfl)) ?_; (with_reducible refine (group_AddN.calls t264 t276 t277 _ A32.out).mono ?_); rintro e w' ⟨rfl, ⟨nd, rfl⟩⟩; refine ⟨_, rfl, ?_⟩) | ((with_reducible refine gate_callee (f := 23) rfl ?_); refine goesL_ (some 104) rfl rfl Try.func23 (by kernel_rfl) rfl #[.int .i64 t256, .int .i64 t257] rfl (by (try simp only [List.map_toArray, List.map_cons, List.map_nil]); first | done | rfl | (simp only [List.length_drop, List.length_take]; rfl)) ?_; (with_reducible refine (group_MulN.calls k t256 t257 t278 _ A33.out).mono ?_); rintro e w' ⟨rfl, ⟨nd, rfl⟩⟩; refine ⟨_, rfl, ?_⟩) | (go_at_call 19; (with_reducible refine (group_AddN.calls t256 t257 t279 _ A35.out).mono ?_); rintro e w' ⟨rfl, ⟨nd, rfl⟩⟩) | (go_at_call 21; (with_reducible refine (group_SubN.calls t256 t257 t280 _ A37.out).mono ?_); rintro e w' ⟨rfl, ⟨nd, rfl⟩⟩) | (go_at_call 21; (with_reducible refine (group_SubN.calls a0 a1 t281 _ A38.out).mono ?_); rintro e w' ⟨rfl, ⟨nd, rfl⟩⟩))
                            go_ret
                            exact ⟨by first | rfl | (simp; done) | (simp [*]; done), by repeat (first | exact Drawn0.refl _ | apply Drawn0.step)⟩
                          · rw [if_neg c43] at H
                            exact absurd H (by simp)
                        · rw [if_neg c42] at H
                          exact absurd H (by simp)
                      · rw [if_neg c41] at H
                        exact absurd H (by simp)
                    · rw [if_neg c40] at H
                      exact absurd H (by simp)
                  · replace c39 := Bool.eq_false_iff.mpr c39
                    subst c39
                    have H1 : (none) = some r := by rw [if_neg (show ¬ (false = true) by decide)] at H; exact H
                    clear H
                    have H := H1
                    clear H1
                    exact absurd H (by simp)
                · rw [if_neg c36] at H
                  exact absurd H (by simp)
              · rw [if_neg c34] at H
                exact absurd H (by simp)
            · rw [if_neg c25] at H
              exact absurd H (by simp)
          · rw [if_neg c19] at H
            exact absurd H (by simp)
        · rw [if_neg c16] at H
          exact absurd H (by simp)
      · rw [if_neg c12] at H
        exact absurd H (by simp)
    · rw [if_neg c10] at H
      exact absurd H (by simp)
  · replace c8 := Bool.eq_false_iff.mpr c8
    subst c8
    have H1 : (none) = some r := by rw [if_neg (show ¬ (false = true) by decide)] at H; exact H
    clear H
    have H := H1
    clear H1
    exact absurd H (by simp)

/-- THE ONE PURE STATEMENT of agoralaw04_GroupRing: yours. -/
def agoralaw04_GroupRing.Pure : Prop := ∀ (a0 : Int) (a1 : Int) (a2 : Int), (Lit.int .i64 a0).wf = true → (Lit.int .i64 a1).wf = true → (Lit.int .i64 a2).wf = true → ∃ k, agoralaw04_GroupRing.f k a0 a1 a2 = some true
theorem agoralaw04_GroupRing.walk (P : agoralaw04_GroupRing.Pure) (a0 : Int) (a1 : Int) (a2 : Int) (w : World) (w0 : (Lit.int .i64 a0).wf = true) (w1 : (Lit.int .i64 a1).wf = true) (w2 : (Lit.int .i64 a2).wf = true) :
    Calls Try.prog 6 #[.int .i64 a0, .int .i64 a1, .int .i64 a2] w fun e w' => e = .returned (.bool true) ∧ Below w.heap.size w w' := by
  obtain ⟨k, h⟩ := P a0 a1 a2 w0 w1 w2
  refine (agoralaw04_GroupRing.calls k a0 a1 a2 true w h).mono ?_
  rintro e w' ⟨rfl, hd⟩
  exact ⟨rfl, hd.below⟩

/-! ### agoralaw04_GroupGenerates: function 7 -/
def agoralaw04_GroupGenerates.f (k : Nat) (a0 : Int) (a1 : Int) : Option (Bool) := (agoralaw04_small.f k).bind fun t282 => ((group_Exp.f k 37 a0).bind fun t283 => ((group_Exp.f k 37 a1).bind fun t284 => ((group_SubN.f a0 a1).bind fun t285 => (if t282 = true then (if ((t283 == t284) == (t285 == 0)) = true then (if t283 ≥ 1 then (if t283 < 2305843009213693951 then (some true) else (none)) else (none)) else (none)) else (none)))))
theorem agoralaw04_GroupGenerates.mono : ∀ a0 a1 k, LeO (agoralaw04_GroupGenerates.f k a0 a1) (agoralaw04_GroupGenerates.f (k + 1) a0 a1) := by
  intro a0 a1 k
  unfold agoralaw04_GroupGenerates.f
  repeat' first
      | (with_reducible exact agoralaw04_small.mono _)
      | (with_reducible exact group_Exp.mono _ _ _)
      | (with_reducible exact LeO.refl _)
      | (with_reducible exact LeO.none _)
      | (with_reducible refine LeO.ite ?_ ?_)
      | (with_reducible refine LeO.bind ?_ (fun _ => ?_))
      | exact agoralaw04_small.mono _
      | exact group_Exp.mono _ _ _
      | exact LeO.none _
      | refine LeO.ite ?_ ?_
      | refine LeO.bind ?_ (fun _ => ?_)
set_option maxHeartbeats 8000000 in
set_option maxRecDepth 100000 in
theorem agoralaw04_GroupGenerates.calls (k : Nat) (a0 : Int) (a1 : Int) (r : Bool) (w : World) (h : agoralaw04_GroupGenerates.f k a0 a1 = some r) :
    Calls Try.prog 7 #[.int .i64 a0, .int .i64 a1] w fun e w' => e = .returned (.bool r) ∧ Drawn0 w w' := by
  have H : ((agoralaw04_small.f k).bind fun t282 => ((group_Exp.f k 37 a0).bind fun t283 => ((group_Exp.f k 37 a1).bind fun t284 => ((group_SubN.f a0 a1).bind fun t285 => (if t282 = true then (if ((t283 == t284) == (t285 == 0)) = true then (if t283 ≥ 1 then (if t283 < 2305843009213693951 then (some true) else (none)) else (none)) else (none)) else (none)))))) = some r := h
  clear h
  replace H := Option.bind_eq_some_iff.mp H
  obtain ⟨t282, A30, H⟩ := H
  replace H : ((group_Exp.f k 37 a0).bind fun t283 => ((group_Exp.f k 37 a1).bind fun t284 => ((group_SubN.f a0 a1).bind fun t285 => (if t282 = true then (if ((t283 == t284) == (t285 == 0)) = true then (if t283 ≥ 1 then (if t283 < 2305843009213693951 then (some true) else (none)) else (none)) else (none)) else (none))))) = some r := H
  have A3 := Aside0.mk A30
  clear A30
  replace H := Option.bind_eq_some_iff.mp H
  obtain ⟨t283, A40, H⟩ := H
  replace H : ((group_Exp.f k 37 a1).bind fun t284 => ((group_SubN.f a0 a1).bind fun t285 => (if t282 = true then (if ((t283 == t284) == (t285 == 0)) = true then (if t283 ≥ 1 then (if t283 < 2305843009213693951 then (some true) else (none)) else (none)) else (none)) else (none)))) = some r := H
  have A4 := Aside0.mk A40
  clear A40
  replace H := Option.bind_eq_some_iff.mp H
  obtain ⟨t284, A50, H⟩ := H
  replace H : ((group_SubN.f a0 a1).bind fun t285 => (if t282 = true then (if ((t283 == t284) == (t285 == 0)) = true then (if t283 ≥ 1 then (if t283 < 2305843009213693951 then (some true) else (none)) else (none)) else (none)) else (none))) = some r := H
  have A5 := Aside0.mk A50
  clear A50
  replace H := Option.bind_eq_some_iff.mp H
  obtain ⟨t285, A60, H⟩ := H
  replace H : (if t282 = true then (if ((t283 == t284) == (t285 == 0)) = true then (if t283 ≥ 1 then (if t283 < 2305843009213693951 then (some true) else (none)) else (none)) else (none)) else (none)) = some r := H
  have A6 := Aside0.mk A60
  clear A60
  by_cases c7 : t282 = true
  · subst c7
    have H1 : (if ((t283 == t284) == (t285 == 0)) = true then (if t283 ≥ 1 then (if t283 < 2305843009213693951 then (some true) else (none)) else (none)) else (none)) = some r := by rw [if_pos rfl] at H; exact H
    clear H
    have H := H1
    clear H1
    by_cases c8 : ((t283 == t284) == (t285 == 0)) = true
    · rw [if_pos c8] at H
      have c8b0 : ((t283 == t284) == (t285 == 0)) = true := c8
      (try (have c8b1 : decide ((t283 == t284) = (t285 == 0)) = true := by simpa using c8))
      (try (have c8b2 : ((t283 == t284) == (t285 == 0)) = true := by simpa using c8))
      clear c8
      by_cases c9 : t283 ≥ 1
      · rw [if_pos c9] at H
        have c9b0 : decide (1 ≤ t283) = true := decide_eq_true c9
        clear c9
        by_cases c10 : t283 < 2305843009213693951
        · rw [if_pos c10] at H
          have c10b0 : decide (t283 < 2305843009213693951) = true := decide_eq_true c10
          clear c10
          obtain rfl := Option.some.inj H
          go_enter Try.func7, Try.ntmps7
          go_wp2_with (first | ((with_reducible refine gate_callee (f := 8) rfl ?_); refine goesL_ (some 9) rfl rfl Try.func8 (by kernel_rfl) rfl #[] rfl (by (try simp only [List.map_toArray, List.map_cons, List.map_nil]); first | done | rfl | (simp only [List.length_drop, List.length_take]; rfl)) ?_; (with_reducible refine (agoralaw04_small.calls k  true _ A3.out).mono ?_); rintro e w' ⟨rfl, ⟨nd, rfl⟩⟩; refine ⟨_, rfl, ?_⟩) | ((with_reducible refine gate_callee (f := 17) rfl ?_); refine goesL_ (some 11) rfl rfl Try.func17 (by kernel_rfl) rfl #[.int .i64 37, .int .i64 a0] rfl (by (try simp only [List.map_toArray, List.map_cons, List.map_nil]); first | done | rfl | (simp only [List.length_drop, List.length_take]; rfl)) ?_; (with_reducible refine (group_Exp.calls k 37 a0 t283 _ A4.out).mono ?_); rintro e w' ⟨rfl, ⟨nd, rfl⟩⟩; refine ⟨_, rfl, ?_⟩) | ((with_reducible refine gate_callee (f := 17) rfl ?_); refine goesL_ (some 13) rfl rfl Try.func17 (by kernel_rfl) rfl #[.int .i64 37, .int .i64 a1] rfl (by (try simp only [List.map_toArray, List.map_cons, List.map_nil]); first | done | rfl | (simp only [List.length_drop, List.length_take]; rfl)) ?_; (with_reducible refine (group_Exp.calls k 37 a1 t284 _ A5.out).mono ?_); rintro e w' ⟨rfl, ⟨nd, rfl⟩⟩; refine ⟨_, rfl, ?_⟩) | ((with_reducible refine gate_callee (f := 21) rfl ?_); refine goesL_ (some 16) rfl rfl Try.func21 (by kernel_rfl) rfl #[.int .i64 a0, .int .i64 a1] rfl (by (try simp only [List.map_toArray, List.map_cons, List.map_nil]); first | done | rfl | (simp only [List.length_drop, List.length_take]; rfl)) ?_; (with_reducible refine (group_SubN.calls a0 a1 t285 _ A6.out).mono ?_); rintro e w' ⟨rfl, ⟨nd, rfl⟩⟩; refine ⟨_, rfl, ?_⟩))
          go_ret
          exact ⟨by first | rfl | (simp; done) | (simp [*]; done), by repeat (first | exact Drawn0.refl _ | apply Drawn0.step)⟩
        · rw [if_neg c10] at H
          exact absurd H (by simp)
      · rw [if_neg c9] at H
        exact absurd H (by simp)
    · rw [if_neg c8] at H
      exact absurd H (by simp)
  · replace c7 := Bool.eq_false_iff.mpr c7
    subst c7
    have H1 : (none) = some r := by rw [if_neg (show ¬ (false = true) by decide)] at H; exact H
    clear H
    have H := H1
    clear H1
    exact absurd H (by simp)

/-- THE ONE PURE STATEMENT of agoralaw04_GroupGenerates: yours. -/
def agoralaw04_GroupGenerates.Pure : Prop := ∀ (a0 : Int) (a1 : Int), (Lit.int .i64 a0).wf = true → (Lit.int .i64 a1).wf = true → ∃ k, agoralaw04_GroupGenerates.f k a0 a1 = some true
theorem agoralaw04_GroupGenerates.walk (P : agoralaw04_GroupGenerates.Pure) (a0 : Int) (a1 : Int) (w : World) (w0 : (Lit.int .i64 a0).wf = true) (w1 : (Lit.int .i64 a1).wf = true) :
    Calls Try.prog 7 #[.int .i64 a0, .int .i64 a1] w fun e w' => e = .returned (.bool true) ∧ Below w.heap.size w w' := by
  obtain ⟨k, h⟩ := P a0 a1 w0 w1
  refine (agoralaw04_GroupGenerates.calls k a0 a1 true w h).mono ?_
  rintro e w' ⟨rfl, hd⟩
  exact ⟨rfl, hd.below⟩

end Go.Proofs.Ytffmdbbndfmgdaa.P
