/- Texts of this claim, merged: what the functions that the law reaches compute, and what that says. -/
import Derived.RangeFuncNested
import Derived.RangeFuncBound
import Derived.RangeFuncCalls
import Derived.RangeFuncLeaves
import Derived.Shelf.Abstract
import Derived.Shelf.RegionOpen
import Derived.WalkKit
import Derived.OwnWalkIn
import Derived.TacticsInMore
import Derived.LoopNIn
import Derived.LoopIn
section Range_
namespace Go.Proofs.Ytdmeclmniooedaa.Rng
open Go.RowKit
set_option linter.unusedVariables false
variable {F : Fence} {n : Nat} {P : Program}
def Cel (A B : World) : Prop := ∀ (j : Nat) (o : Obj), A.heap[j]? = some o → o.isCells = true → B.heap[j]? = some o
def Hands (F : Fence) (n : Nat) (P : Program) (g : Nat) (lb : Array Value) (enc : Nat → Array Value) (Kp : World → World → Prop) (w0 : World) : Prop :=
  ∀ (l : Nat) (J : Nat → World → Prop) (X : World → Prop) (N : Nat) (W : World), N ≤ 1099511627776 → Below w0.heap.size w0 W →
    (∀ k A B, J k A → Below A.heap.size A B → J k B) → (∀ k A, J k A → k < N) →
    (∀ k A, J k A → YieldAt F (n - 1) P l (enc k) A fun e B => (e = .returned (.bool true) ∧ J (k + 1) B ∧ Kp A B) ∨ (e = .returned (.bool false) ∧ X B)) →
    J 0 W → CallsIn F n P g (#[.func (.yield l) #[] #[]] ++ lb) W fun e B => (∃ v, e = .returned v) ∧ X B
theorem cel_put {A : World} {l : Nat} {o : Obj} (h : A.heap[l]? = some o) (ho : o.isCells = false) (o' : Obj) : Cel A (A.putObj l o') := by
  intro j q hj hq
  have hne : j ≠ l := by rintro rfl; rw [h] at hj; cases hj; rw [ho] at hq; cases hq
  exact (World.putObj_heap_other hne).trans hj
theorem cel_below {A B : World} (h : Below A.heap.size A B) : Cel A B := fun j q hj _ => (h.block j (Array.getElem?_eq_some_iff.1 hj).1).trans hj
theorem below_put {n₀ : Nat} {A : World} {l : Nat} {o : Obj} (h : A.heap[l]? = some o) (hl : n₀ ≤ l) (o' : Obj) : Below n₀ A (A.putObj l o') :=
  (Below.refl n₀ A).grown (grownBy_putObj' A l o') (by have := (Array.getElem?_eq_some_iff.1 h).1; omega) (fun k e => by cases e; exact hl)
def endsSo (n₀ : Nat) (Kp : World → World → Prop) (I : Nat → World → Prop) (Ix : World → Prop) (id : Nat) (k : Nat) (W : World) : Exit → Act → World → Prop
  | .normal, _, B => KeepsFrom n₀ W B ∧ Kp W B ∧ I (k + 1) B
  | .exit q, _, B => q = id ∧ KeepsFrom n₀ W B ∧ Ix B
  | _, _, _ => False
theorem range_upto {g : Operand} {ps : Array Tmp} {assign body : Code} {Q : Exit → Act → World → Prop} {a : Act} {w : World} (hro : F.round = none) (h1 : 1 ≤ n) {gf : Nat} {lb : Array Value}
    (hg : a.eval g = .func (.func gf) #[] lb) (hFg : F.fn gf) (eg : ∀ args w, (callFunc gf args).run P w = .ok (.enter gf args) w)
    {enc : Nat → Array Value} {Kp : World → World → Prop} (hKt : ∀ A B C, Kp A B → Kp B C → Kp A C) (hKb : ∀ (W : World) (l : Nat) (o' : Obj), w.heap.size ≤ l → Kp W (W.putObj l o')) (hps : ∀ k, (enc k).size = ps.size) (hit : Hands F (n - 1) P gf lb enc Kp w) (N id : Nat) (hNb : N ≤ 1099511627776)
    (I : Nat → World → Prop) (Ix : World → Prop)
    (hI : ∀ k A B, I k A → Below w.heap.size A B → Cel A B → I k B) (hIx : ∀ A B, Ix A → Below w.heap.size A B → Cel A B → Ix B) (hN : ∀ k A, I k A → k < N) (h0 : I 0 w) (a₁ : Nat → Act)
    (hassign : ∀ (l k : Nat) (W : World) (K : Act → World → Prop), K (a₁ k) W →
      assign.wpIn (F.inRound l) (n - 1 - 1) P (Exit.then K (fun _ _ _ => False)) { tmps := (ps.zip (enc k)).foldl (fun t (p, v) => t.setIfInBounds p v) a.tmps, defers := [] } W)
    (hbody : ∀ (l k : Nat) (W : World), I k W → body.wpIn (F.inRound l) (n - 1 - 1) P (endsSo w.heap.size Kp I Ix id k W) (a₁ k) W)
    (hstop : ∀ (D : Nat) (W : World), D = w.heap.size → Ix W → W.heap[D]? = some (.deferred (some [])) → (Code.exit id).wpIn F n P Q { a with defers := { target := .collected D, args := #[] } :: a.defers } W) :
    (Code.rangeFunc g ps assign body).wpIn F n P Q a w := by
  refine wpIn_rangeFunc (fun fn hfn => ?_)
  rw [hro]
  let R : LoopState → Option Code → Loop := fun st pe => { state := st, pending := pe, fn, tmps := a.tmps, params := ps, assign, body, defers := w.heap.size }
  have hRp : ∀ st pe, (R st pe).params = ps := fun _ _ => rfl
  let V : World := (w.alloc (.deferred (some []))).alloc (.loop (R .ready none))
  have vD : V.heap[w.heap.size]? = some (.deferred (some [])) := (Below.heap_alloc _ _ _ (by simp)).trans (World.alloc_heap_new w _)
  have vL : V.heap[w.heap.size + 1]? = some (.loop (R .ready none)) := by
    have := World.alloc_heap_new (w.alloc (.deferred (some []))) (.loop (R .ready none)); rwa [World.size_alloc] at this
  have vB : Below w.heap.size w V := ((Below.refl _ w).alloc (Nat.le_refl _) _).alloc (by simp) _
  have vI : I 0 V := hI 0 w V h0 vB (cel_below vB)
  refine ⟨w.heap.size + 1, _, V, { target := .fn (.func gf) lb, args := #[.func (.yield (w.heap.size + 1)) #[] #[]] }, V, gf,
    #[.func (.yield (w.heap.size + 1)) #[] #[]] ++ lb, V, run_enterLoop_outer _ _ _ _ _, ?_, ?_, ?_, fun _ => h1, ?_⟩
  · simp only [resolve, hg]; simp [go_sem]
  · intro f' hf'; simp [Target.leads] at hf'; subst hf'; exact hFg
  · simp [invoke, go_sem, eg]
  refine (hit (w.heap.size + 1) (fun k W => I k W ∧ W.heap[w.heap.size + 1]? = some (.loop (R .ready none)) ∧ W.heap[w.heap.size]? = some (.deferred (some [])))
    (fun W => Ix W ∧ W.heap[w.heap.size + 1]? = some (.loop (R .done (some (.exit id)))) ∧ W.heap[w.heap.size]? = some (.deferred (some []))) N V hNb vB ?_ (fun k A h => hN k A h.1) ?_ ⟨vI, vL, vD⟩).mono ?_
  · rintro k A B ⟨i, hl, hd⟩ hb
    have hs := (Array.getElem?_eq_some_iff.1 hl).1
    exact ⟨hI k A B i (hb.mono (by omega)) (cel_below hb), (hb.block _ hs).trans hl, (hb.block _ (by omega)).trans hd⟩
  · rintro k A ⟨i, hl, hd⟩
    refine ⟨fn, _, assign, body, run_yield hl (by rw [hRp]; exact hps k), roundIn_of_wpIn hfn (hassign _ k A _ ?_)⟩
    have hs := (Array.getElem?_eq_some_iff.1 hl).1
    refine ⟨_, run_beginRound hl rfl, ?_⟩
    have b1 : Below w.heap.size A (A.putObj (w.heap.size + 1) (.loop (R .busy none))) := below_put hl (Nat.le_succ _) _
    have l1 : (A.putObj (w.heap.size + 1) (.loop (R .busy none))).heap[w.heap.size + 1]? = some (.loop (R .busy none)) := World.putObj_heap_same hs
    have d1 : (A.putObj (w.heap.size + 1) (.loop (R .busy none))).heap[w.heap.size]? = some (.deferred (some [])) := (World.putObj_heap_other (by omega)).trans hd
    refine wpIn_mono (hbody _ k _ (hI k _ _ i b1 (cel_put hl rfl _))) ?_
    intro e a3 B hp
    cases e with
    | normal =>
      obtain ⟨kf, kb, i3⟩ := hp
      have l3 := kf.same _ _ (Nat.le_succ _) l1 rfl
      have d3 := kf.same _ _ (Nat.le_refl _) d1 rfl
      have s3 := (Array.getElem?_eq_some_iff.1 l3).1
      have b4 : Below w.heap.size B (B.putObj (w.heap.size + 1) (.loop (R .ready none))) := below_put l3 (Nat.le_succ _) _
      exact ⟨_, _, run_endRound none l3, .inl ⟨rfl, ⟨hI _ _ _ i3 b4 (cel_put l3 rfl _), World.putObj_heap_same s3, (World.putObj_heap_other (by omega)).trans d3⟩, hKt _ _ _ (hKt _ _ _ (hKb _ _ _ (Nat.le_succ _)) kb) (hKb _ _ _ (Nat.le_succ _))⟩⟩
    | exit q =>
      obtain ⟨rfl, kf, i3⟩ := hp
      have l3 := kf.same _ _ (Nat.le_succ _) l1 rfl
      have d3 := kf.same _ _ (Nat.le_refl _) d1 rfl
      have s3 := (Array.getElem?_eq_some_iff.1 l3).1
      have b4 : Below w.heap.size B (B.putObj (w.heap.size + 1) (.loop (R .done (some (.exit q))))) := below_put l3 (Nat.le_succ _) _
      exact ⟨_, _, run_endRound (some (.exit q)) l3, .inr ⟨rfl, hIx _ _ i3 b4 (cel_put l3 rfl _), World.putObj_heap_same s3, (World.putObj_heap_other (by omega)).trans d3⟩⟩
    | ret => exact hp.elim
    | goto t => exact hp.elim
    | panic ch => exact hp.elim
    | outgrown => exact hp.elim
  · rintro e B ⟨⟨v, rfl⟩, ix, hl, hd⟩
    have hs := (Array.getElem?_eq_some_iff.1 hl).1
    exact ⟨some (.exit id), _, run_endLoop hl (by simp [R]), hstop _ _ rfl (hIx _ _ ix (below_put hl (Nat.le_succ _) _) (cel_put hl rfl _)) ((World.putObj_heap_other (by omega)).trans hd)⟩
def bitsAll : Nat → List (List Bool)
  | 0 => [[]]
  | n + 1 => (bitsAll n).flatMap fun l => [true :: l, false :: l]
theorem mem_bitsAll (l : List Bool) : l ∈ bitsAll l.length := by
  induction l with
  | nil => simp [bitsAll]
  | cons b l ih =>
    rw [List.length_cons, bitsAll, List.mem_flatMap]
    exact ⟨l, ih, by cases b <;> simp⟩
def clo (D : List (List Nat)) (N : Nat) (l : List Bool) : Bool := (List.range N).all fun i => !(l.getD i false) || (D.getD i []).all fun j => l.getD j false
def chk (ops : Array Oper) (D E : List (List Nat)) (N : Nat) (l : List Bool) : Bool :=
  !(clo D N l) || (((Region.ready .any ops l.toArray).all fun i => clo D N (l.set i true) && decide (i < N) && (l.getD i true == false) && ((D.getD i []).all fun j => l.getD j false) && ((E.getD i []).all fun j => l.getD j true == false)) && (!(Region.ready .any ops l.toArray).isEmpty || l.all id) && (l.contains false || (Region.ready .any ops l.toArray).isEmpty))
theorem any_state {ops : Array Oper} {Q : Exit → Act → World → Prop} (N : Nat) (D E : List (List Nat)) (S : List Bool → Act × World) (hchk : (bitsAll N).all (chk ops D E N) = true)
    (hst : ∀ i, i < N → ∀ l : List Bool, l.length = N → l.getD i true = false → (∀ j ∈ D.getD i [], l.getD j false = true) → (∀ j ∈ E.getD i [], l.getD j true = false) → ∃ o, ops[i]? = some o ∧
      ∀ K' : Act → World → Prop, K' (S (l.set i true)).1 (S (l.set i true)).2 → if Region.wanted o (yielded ops (S l).1.tmps) = true then Oper.wpIn F n P o (S l).1 (S l).2 K' Q else (∀ f, o.about P (S l).2 (S l).1.eval = some f → F.fn f) ∧ K' ((S l).1.put o.dst undef) (S l).2)
    (hend : Q .normal (S (List.replicate N true)).1 (S (List.replicate N true)).2) : ∀ (fuel : Nat) (l : List Bool), l.length = N → clo D N l = true → l.count false = fuel → wpAnyIn F n P .any ops Q fuel l.toArray (S l).1 (S l).2 := by
  have hc : ∀ l : List Bool, l.length = N → chk ops D E N l = true := fun l hl => List.all_eq_true.1 hchk l (by rw [← hl]; exact mem_bitsAll l)
  have hemp : ∀ l : List Bool, l.length = N → clo D N l = true → Region.ready .any ops l.toArray = [] → l = List.replicate N true := by
    intro l hl hcl hr
    have := hc l hl
    simp only [chk, hcl, hr, List.isEmpty_nil, Bool.not_true, Bool.false_or, Bool.and_eq_true, List.all_eq_true, id] at this
    exact List.eq_replicate_iff.2 ⟨hl, fun b hb => this.1.2 b hb⟩
  intro fuel
  induction fuel with
  | zero =>
    intro l hl hcl h0
    have hr : Region.ready .any ops l.toArray = [] := by
      have := hc l hl
      have hf : l.contains false = false := by
        rw [Bool.eq_false_iff]
        intro h
        have := List.count_pos_iff.2 (List.contains_iff_mem.1 h)
        omega
      simp only [chk, hcl, hf, Bool.not_true, Bool.false_or, Bool.and_eq_true, List.isEmpty_iff] at this
      exact this.2
    exact ⟨hr, by rw [hemp l hl hcl hr]; exact hend⟩
  | succ fuel ih =>
    intro l hl hcl hcnt
    refine ⟨fun hr => by rw [hemp l hl hcl hr]; exact hend, fun i hi => ?_⟩
    have h1 := hc l hl
    simp only [chk, hcl, Bool.not_true, Bool.false_or, Bool.and_eq_true] at h1
    have h2 := List.all_eq_true.1 h1.1.1 i hi
    simp only [Bool.and_eq_true, decide_eq_true_eq, beq_iff_eq, List.all_eq_true] at h2
    obtain ⟨o, ho, hstep⟩ := hst i h2.1.1.1.2 l hl h2.1.1.2 h2.1.2 h2.2
    refine wpOpIn_step ho (fun K' hK => hstep K' (hK _ _ ?_))
    have hil : i < l.length := by rw [hl]; exact h2.1.1.1.2
    have hgf : l[i] = false := by
      have := h2.1.1.2
      rwa [List.getD_eq_getElem?_getD, List.getElem?_eq_getElem hil] at this
    rw [List.setIfInBounds_toArray]
    refine ih (l.set i true) (by rw [List.length_set]; exact hl) h2.1.1.1.1 ?_
    rw [List.count_set hil, hgf]
    simp
    omega
end Go.Proofs.Ytdmeclmniooedaa.Rng
end Range_
