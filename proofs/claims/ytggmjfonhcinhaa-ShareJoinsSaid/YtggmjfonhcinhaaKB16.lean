/- Texts of this claim, merged: what the functions that the law reaches compute, and what that says. -/
import Derived.Lib.Builder
import Derived.Laws.CopyOwn
import Derived.Deep.RegionLaw
import Derived.Test.YtggmjfonhcinhaaKB3
import Derived.Test.YtggmjfonhcinhaaKB15
section StepR_
namespace Go.Proofs.Ytggmjfonhcinhaa.Sch
open Go.RowKit Go.Proofs.Ytggmjfonhcinhaa.P Go.Proofs.Ytggmjfonhcinhaa.ShaL Go.Proofs.YtggmjfonhcinhaaW.PrintWords Go.Proofs.YtggmjfonhcinhaaW.PrintLast Go.Proofs.YtggmjfonhcinhaaW.PrintMore
set_option linter.unusedVariables false
/-- a block of the call's own that holds these cells -/
def Blk (base b0 : Nat) (w : World) (g : Nat) (cs : Array Value) (T : TypeId) : Prop := base ≤ g ∧ g ≠ b0 ∧ w.heap[g]? = some (.cells cs T (0, 0))
def ptr (g : Nat) : Value := .pointer (some ⟨g, 0, none⟩)
/-- what holds of the world when the operations of b have been carried out -/
def F (w0 : World) (base b0 : Nat) (Hc Wc Kc Z64 Z8 : Array Value) (g5 g6 g7 : Nat) (b : Nat → Bool) (w' : World) : Prop :=
    Below base w0 w' ∧ base ≤ w'.heap.size ∧ b0 < w'.heap.size ∧ w'.heap[b0]? = some (.cells Hc 52 (0, 0)) ∧
    (b 4 = true → Blk base b0 w' g5 (if b 7 = true then Wc else Z64) 72) ∧
    (b 5 = true → Blk base b0 w' g6 (if b 8 = true then Kc else Z64) 72) ∧
    (b 6 = true → Blk base b0 w' g7 (if b 9 = true then Hc else Z8) 52) ∧
    (b 4 = true → b 5 = true → g5 ≠ g6) ∧ (b 4 = true → b 6 = true → g5 ≠ g7) ∧ (b 5 = true → b 6 = true → g6 ≠ g7)
def Inv (w0 : World) (base b0 : Nat) (Hc Wc Kc Z64 Z8 : Array Value) (a0 : Act) (b : Nat → Bool) (a : Act) (w' : World) : Prop :=
  ∃ g5 g6 g7, a = putSel a0 b [(1, 15, .agg Wc), (2, 16, .agg Kc), (3, 17, .agg Hc), (4, 5, ptr g5), (5, 6, ptr g6), (6, 7, ptr g7)] ∧ F w0 base b0 Hc Wc Kc Z64 Z8 g5 g6 g7 b w'
theorem some_lt {w : World} {g : Nat} {o : Obj} (h : w.heap[g]? = some o) : g < w.heap.size := by
  rcases Nat.lt_or_ge g w.heap.size with h' | h'
  · exact h'
  · simp [Array.getElem?_eq_none h'] at h
theorem keep_below {w w' : World} (hb : Below w.heap.size w w') : ∀ (g : Nat) (o : Obj), w.heap[g]? = some o → w'.heap[g]? = some o := by
  intro g o h
  rw [hb.block g (some_lt h)]; exact h
theorem keep_alloc (w : World) (o : Obj) : ∀ (g : Nat) (x : Obj), w.heap[g]? = some x → (w.alloc o).heap[g]? = some x := by
  intro g x h
  rw [Lib.alloc_old w o g (some_lt h)]; exact h
theorem Blk.keep {base b0 : Nat} {w w' : World} {g : Nat} {cs : Array Value} {T : TypeId} (h : Blk base b0 w g cs T) (hk : ∀ (g : Nat) (o : Obj), w.heap[g]? = some o → w'.heap[g]? = some o) : Blk base b0 w' g cs T :=
  ⟨h.1, h.2.1, hk _ _ h.2.2⟩
theorem Blk.lt {base b0 : Nat} {w : World} {g : Nat} {cs : Array Value} {T : TypeId} (h : Blk base b0 w g cs T) : g < w.heap.size := some_lt h.2.2
theorem Blk.other {base b0 : Nat} {w : World} {g g2 : Nat} {cs cs2 : Array Value} {T : TypeId} (h : Blk base b0 w g cs T) (hne : g ≠ g2) : Blk base b0 (w.setRow g2 cs2) g cs T :=
  ⟨h.1, h.2.1, by rw [setRow_other w g2 g cs2 hne]; exact h.2.2⟩
theorem Blk.same {base b0 : Nat} {w : World} {g : Nat} {cs cs2 : Array Value} {T : TypeId} (h : Blk base b0 w g cs T) : Blk base b0 (w.setRow g cs2) g cs2 T :=
  ⟨h.1, h.2.1, setRow_heap w g cs cs2 T (0, 0) h.2.2⟩
section
variable {w0 : World} {base b0 : Nat} {Hc Wc Kc Z64 Z8 : Array Value} {g5 g6 g7 : Nat} {b : Nat → Bool} {w' : World}
theorem F.quiet (h : F w0 base b0 Hc Wc Kc Z64 Z8 g5 g6 g7 b w') {i : Nat} (hi : i < 4) {w2 : World} (hk : ∀ (g : Nat) (o : Obj), w'.heap[g]? = some o → w2.heap[g]? = some o) (hb : Below base w0 w2) (hs : w'.heap.size ≤ w2.heap.size) :
    F w0 base b0 Hc Wc Kc Z64 Z8 g5 g6 g7 (up b i) w2 := by
  obtain ⟨_, hbs, hb0, hh, f5, f6, f7, d56, d57, d67⟩ := h
  have e4 : up b i 4 = b 4 := up_ne (by omega)
  have e5 : up b i 5 = b 5 := up_ne (by omega)
  have e6 : up b i 6 = b 6 := up_ne (by omega)
  have e7 : up b i 7 = b 7 := up_ne (by omega)
  have e8 : up b i 8 = b 8 := up_ne (by omega)
  have e9 : up b i 9 = b 9 := up_ne (by omega)
  refine ⟨hb, by omega, by omega, hk _ _ hh, ?_, ?_, ?_, ?_, ?_, ?_⟩
  · rw [e4, e7]; exact fun q => (f5 q).keep hk
  · rw [e5, e8]; exact fun q => (f6 q).keep hk
  · rw [e6, e9]; exact fun q => (f7 q).keep hk
  · rw [e4, e5]; exact d56
  · rw [e4, e6]; exact d57
  · rw [e5, e6]; exact d67
theorem F.alloc4 (h : F w0 base b0 Hc Wc Kc Z64 Z8 g5 g6 g7 b w') (h7 : b 7 = false) : F w0 base b0 Hc Wc Kc Z64 Z8 w'.heap.size g6 g7 (up b 4) (w'.alloc (.cells Z64 72)) := by
  obtain ⟨hb, hbs, hb0, hh, f5, f6, f7, d56, d57, d67⟩ := h
  have e5 : up b 4 5 = b 5 := up_ne (by decide)
  have e6 : up b 4 6 = b 6 := up_ne (by decide)
  have e7 : up b 4 7 = b 7 := up_ne (by decide)
  have e8 : up b 4 8 = b 8 := up_ne (by decide)
  have e9 : up b 4 9 = b 9 := up_ne (by decide)
  have hsz := World.size_alloc w' (.cells Z64 72)
  refine ⟨hb.alloc hbs _, by omega, by omega, keep_alloc _ _ _ _ hh, ?_, ?_, ?_, ?_, ?_, ?_⟩
  · intro _; rw [e7, h7]; exact ⟨hbs, by omega, heap_alloc_new _ _⟩
  · rw [e5, e8]; exact fun q => (f6 q).keep (keep_alloc _ _)
  · rw [e6, e9]; exact fun q => (f7 q).keep (keep_alloc _ _)
  · intro _; rw [e5]; exact fun q => by have := (f6 q).lt; omega
  · intro _; rw [e6]; exact fun q => by have := (f7 q).lt; omega
  · rw [e5, e6]; exact d67
theorem F.alloc5 (h : F w0 base b0 Hc Wc Kc Z64 Z8 g5 g6 g7 b w') (h8 : b 8 = false) : F w0 base b0 Hc Wc Kc Z64 Z8 g5 w'.heap.size g7 (up b 5) (w'.alloc (.cells Z64 72)) := by
  obtain ⟨hb, hbs, hb0, hh, f5, f6, f7, d56, d57, d67⟩ := h
  have e4 : up b 5 4 = b 4 := up_ne (by decide)
  have e6 : up b 5 6 = b 6 := up_ne (by decide)
  have e7 : up b 5 7 = b 7 := up_ne (by decide)
  have e8 : up b 5 8 = b 8 := up_ne (by decide)
  have e9 : up b 5 9 = b 9 := up_ne (by decide)
  have hsz := World.size_alloc w' (.cells Z64 72)
  refine ⟨hb.alloc hbs _, by omega, by omega, keep_alloc _ _ _ _ hh, ?_, ?_, ?_, ?_, ?_, ?_⟩
  · rw [e4, e7]; exact fun q => (f5 q).keep (keep_alloc _ _)
  · intro _; rw [e8, h8]; exact ⟨hbs, by omega, heap_alloc_new _ _⟩
  · rw [e6, e9]; exact fun q => (f7 q).keep (keep_alloc _ _)
  · rw [e4]; exact fun q _ => by have := (f5 q).lt; omega
  · rw [e4, e6]; exact d57
  · intro _; rw [e6]; exact fun q => by have := (f7 q).lt; omega
theorem F.alloc6 (h : F w0 base b0 Hc Wc Kc Z64 Z8 g5 g6 g7 b w') (h9 : b 9 = false) : F w0 base b0 Hc Wc Kc Z64 Z8 g5 g6 w'.heap.size (up b 6) (w'.alloc (.cells Z8 52)) := by
  obtain ⟨hb, hbs, hb0, hh, f5, f6, f7, d56, d57, d67⟩ := h
  have e4 : up b 6 4 = b 4 := up_ne (by decide)
  have e5 : up b 6 5 = b 5 := up_ne (by decide)
  have e7 : up b 6 7 = b 7 := up_ne (by decide)
  have e8 : up b 6 8 = b 8 := up_ne (by decide)
  have e9 : up b 6 9 = b 9 := up_ne (by decide)
  have hsz := World.size_alloc w' (.cells Z8 52)
  refine ⟨hb.alloc hbs _, by omega, by omega, keep_alloc _ _ _ _ hh, ?_, ?_, ?_, ?_, ?_, ?_⟩
  · rw [e4, e7]; exact fun q => (f5 q).keep (keep_alloc _ _)
  · rw [e5, e8]; exact fun q => (f6 q).keep (keep_alloc _ _)
  · intro _; rw [e9, h9]; exact ⟨hbs, by omega, heap_alloc_new _ _⟩
  · rw [e4, e5]; exact d56
  · rw [e4]; exact fun q _ => by have := (f5 q).lt; omega
  · rw [e5]; exact fun q _ => by have := (f6 q).lt; omega
theorem F.put7 (h : F w0 base b0 Hc Wc Kc Z64 Z8 g5 g6 g7 b w') (h4 : b 4 = true) (h5 : b 5 = true) (h6 : b 6 = true) : F w0 base b0 Hc Wc Kc Z64 Z8 g5 g6 g7 (up b 7) (w'.setRow g5 Wc) := by
  obtain ⟨hb, hbs, hb0, hh, f5, f6, f7, d56, d57, d67⟩ := h
  have e4 : up b 7 4 = b 4 := up_ne (by decide)
  have e5 : up b 7 5 = b 5 := up_ne (by decide)
  have e6 : up b 7 6 = b 6 := up_ne (by decide)
  have e8 : up b 7 8 = b 8 := up_ne (by decide)
  have e9 : up b 7 9 = b 9 := up_ne (by decide)
  have n := (f5 h4).2.1
  refine ⟨below_setRow hb (f5 h4).1 _, by rw [setRow_size]; exact hbs, by rw [setRow_size]; exact hb0, by rw [setRow_other _ _ _ _ (Ne.symm n)]; exact hh, ?_, ?_, ?_, ?_, ?_, ?_⟩
  · intro _; rw [up_self, if_pos rfl]; exact (f5 h4).same
  · intro _; rw [e8]; exact (f6 h5).other (Ne.symm (d56 h4 h5))
  · intro _; rw [e9]; exact (f7 h6).other (Ne.symm (d57 h4 h6))
  · rw [e4, e5]; exact d56
  · rw [e4, e6]; exact d57
  · rw [e5, e6]; exact d67
theorem F.put8 (h : F w0 base b0 Hc Wc Kc Z64 Z8 g5 g6 g7 b w') (h4 : b 4 = true) (h5 : b 5 = true) (h6 : b 6 = true) : F w0 base b0 Hc Wc Kc Z64 Z8 g5 g6 g7 (up b 8) (w'.setRow g6 Kc) := by
  obtain ⟨hb, hbs, hb0, hh, f5, f6, f7, d56, d57, d67⟩ := h
  have e4 : up b 8 4 = b 4 := up_ne (by decide)
  have e5 : up b 8 5 = b 5 := up_ne (by decide)
  have e6 : up b 8 6 = b 6 := up_ne (by decide)
  have e7 : up b 8 7 = b 7 := up_ne (by decide)
  have e9 : up b 8 9 = b 9 := up_ne (by decide)
  have n := (f6 h5).2.1
  refine ⟨below_setRow hb (f6 h5).1 _, by rw [setRow_size]; exact hbs, by rw [setRow_size]; exact hb0, by rw [setRow_other _ _ _ _ (Ne.symm n)]; exact hh, ?_, ?_, ?_, ?_, ?_, ?_⟩
  · intro _; rw [e7]; exact (f5 h4).other (d56 h4 h5)
  · intro _; rw [up_self, if_pos rfl]; exact (f6 h5).same
  · intro _; rw [e9]; exact (f7 h6).other (Ne.symm (d67 h5 h6))
  · rw [e4, e5]; exact d56
  · rw [e4, e6]; exact d57
  · rw [e5, e6]; exact d67
theorem F.put9 (h : F w0 base b0 Hc Wc Kc Z64 Z8 g5 g6 g7 b w') (h4 : b 4 = true) (h5 : b 5 = true) (h6 : b 6 = true) : F w0 base b0 Hc Wc Kc Z64 Z8 g5 g6 g7 (up b 9) (w'.setRow g7 Hc) := by
  obtain ⟨hb, hbs, hb0, hh, f5, f6, f7, d56, d57, d67⟩ := h
  have e4 : up b 9 4 = b 4 := up_ne (by decide)
  have e5 : up b 9 5 = b 5 := up_ne (by decide)
  have e6 : up b 9 6 = b 6 := up_ne (by decide)
  have e7 : up b 9 7 = b 7 := up_ne (by decide)
  have e8 : up b 9 8 = b 8 := up_ne (by decide)
  have n := (f7 h6).2.1
  refine ⟨below_setRow hb (f7 h6).1 _, by rw [setRow_size]; exact hbs, by rw [setRow_size]; exact hb0, by rw [setRow_other _ _ _ _ (Ne.symm n)]; exact hh, ?_, ?_, ?_, ?_, ?_, ?_⟩
  · intro _; rw [e7]; exact (f5 h4).other (d57 h4 h6)
  · intro _; rw [e8]; exact (f6 h5).other (d67 h5 h6)
  · intro _; rw [up_self, if_pos rfl]; exact (f7 h6).same
  · rw [e4, e5]; exact d56
  · rw [e4, e6]; exact d57
  · rw [e5, e6]; exact d67
end
/-- copy into a row of one's own, as one step of a region that draws its order -/
theorem step_copy_own {P : Program} {ops : Array Oper} {o : Oper} {a : Act} {w : World} {K : Act → World → Prop} {Q : Exit → Act → World → Prop} {E : Prop} (hgd : o.guard = none) (d s : Operand) (dT sT : TypeId)
    (ho : o.op = .call { callee := .builtin .copy, args := #[d, s], argTypes := #[dT, sT] }) (elem : TypeId) (hu : P.underlying dT = some (.slice elem)) (hsz : (P.info? elem).map (·.size) = some 1)
    (g off dLen dCap : Nat) (ad : Addr) (sLen sCap : Nat) (hd : a.eval d = .slice (some ⟨g, off, none⟩) dLen dCap) (hs : a.eval s = .slice (some ad) sLen sCap)
    (cur : Array Value) (t : TypeId) (hg : w.heap[g]? = some (.cells cur t (0, 0))) (cs : List Value) (hn : cs.length = Nat.min sLen dLen)
    (hsrc : ∀ j v, cs[j]? = some v → w.cell? (ad.add j) = some v) (hfit : off + cs.length ≤ cur.size) (h1 : ∀ v ∈ cs, v.oneCell' = true)
    (h : K (a.put o.dst (goInt cs.length)) (w.setRow g (cur.toList.take off ++ (cs ++ cur.toList.drop (off + cs.length))).toArray)) :
    if Region.wanted o (yielded ops a.tmps) = true then Oper.wp P o a w K Q else E := by
  have hw : Region.wanted o (yielded ops a.tmps) = true := by simp [Region.wanted, hgd]
  rw [if_pos hw]
  have hrun := run_copy_row (P := P) w dT sT o.type elem g off dLen dCap ad sLen sCap cur t cs hu hsz hg hn hsrc hfit h1
  unfold Oper.wp
  simp [execOp, ho, resolve, invoke, builtin, hd, hs, hrun, Result.andThen]
  exact h
theorem gen_ {Q : Exit → Act → World → Prop} {e : Exit} {a : Act} {w : World} (h : ∀ w4, w4 = w → Q e a w4) : Q e a w := h w rfl
end Go.Proofs.Ytggmjfonhcinhaa.Sch
end StepR_
